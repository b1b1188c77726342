/-
Part 2 of the proof of the claimed statement (its last part holds the theorem, and says what is proved). Conditions: none.
-/
import Derived.Test.YtgialjcichiaoaaM1
import Derived.ChangeKeysEq
set_option linter.all false
/-
A call of a function value does what the statement says.
-/
namespace Go.Proofs.Ytgialjcichiaoaa
namespace V

theorem exec_callc {P : Program} {a : Act} {o : Oper} {c : Call} {s f : Nat} (ho : o.op = .call c) (hc : c.callee = .value (.tmp s)) (h : Ent P f) (w : World) {first captured : Array Value}
    (hs : tvA a s = .func (.func f) first captured) : (execOp a.eval o).run P w = .ok (.enter f (first ++ c.args.map a.eval ++ captured)) w := by
  have : execOp a.eval o = callFunc f (first ++ c.args.map a.eval ++ captured) := by
    unfold execOp
    simp only [ho]
    obtain ⟨ce, aas, ats⟩ := c
    subst hc
    show (do let d ← Deferred.ofValue (a.eval (.tmp s)) (aas.map a.eval); invoke d.target d.args) = _
    rw [show a.eval (.tmp s) = tvA a s from rfl, hs]
    rfl
  rw [this, run_enter h]

theorem Rep.fn' {w : World} {S : Nat → Nat → Prop} {f : Nat} {fs : List (Bool × List D)} {cs : List (List D)} {v : Value} (h : Rep w S (.fn f fs cs) v) :
    ∃ (fvs : List (List Value)) (bl : List Nat) (cvs : Nat → Nat → Value), fvs.length = fs.length ∧ bl.length = cs.length ∧
      (∀ (i : Nat) (p : Bool × List D) (vs : List Value), fs[i]? = some p → fvs[i]? = some vs → vs.length = p.2.length ∧ (p.1 = false → vs.length = 1)) ∧
      (∀ (i : Nat) (p : Bool × List D) (vs : List Value) (j : Nat) (d : D) (v : Value), fs[i]? = some p → fvs[i]? = some vs → p.2[j]? = some d → vs[j]? = some v → Rep w S d v) ∧
      (∀ (i : Nat) (c : List D) (g : Nat), cs[i]? = some c → bl[i]? = some g → ∃ (cur : Array Value) (T : TypeId), w.heap[g]? = some (Obj.cells cur T (0, 0)) ∧ cur.size = c.length) ∧
      (∀ (i : Nat) (c : List D) (g j : Nat) (d : D), cs[i]? = some c → bl[i]? = some g → c[j]? = some d → w.cell? ⟨g, j, none⟩ = some (cvs i j) ∧ S g j) ∧
      (∀ (i : Nat) (c : List D) (g j : Nat) (d : D), cs[i]? = some c → bl[i]? = some g → c[j]? = some d → Rep w S d (cvs i j)) ∧
      v = .func (.func f) ((fs.zip fvs).map fun p => wrapV p.1.1 p.2).toArray (bl.map fun g => Value.pointer (some ⟨g, 0, none⟩)).toArray := by
  cases h with
  | scal h => cases h
  | fn _ _ _ fvs bl cvs h1 h2 h3 h4 h5 h6 h7 => exact ⟨fvs, bl, cvs, h1, h2, h3, h4, h5, h6, h7, rfl⟩

theorem isScal_cases {d : D} (h : isScal d = true) : (∃ k n, d = .int k n) ∨ (∃ b, d = .bool b) ∨ ∃ s, d = .str s := by
  cases d <;> simp [isScal] at h ⊢

/-- A cell of a function value, as the called function finds it. -/
theorem okW_ok {w : World} {cx : Cx} {own : Own} {s i : Nat} {c : CS} {d : D} {v : Value} (h : okW c d = true) (hr : Rep w (BS cx own) d v) : CellOk w cx own s i c d v := by
  refine ⟨hr.cell1, ?_⟩
  cases c <;> simp [okW] at h
  · exact hr.scal' (isScal_cases h)
  · exact hr
  · trivial

theorem okWs_get : ∀ {ws : List CS} {ds : List D}, okWs ws ds = true → ws.length = ds.length ∧ ∀ (j : Nat) (c : CS) (d : D), ws[j]? = some c → ds[j]? = some d → okW c d = true
  | [], [], _ => ⟨rfl, fun j c d h => by simp at h⟩
  | [], _ :: _, h => by cases h
  | _ :: _, [], h => by cases h
  | w :: ws, d :: ds, h => by
    simp only [okWs, Bool.and_eq_true] at h
    obtain ⟨h1, h2⟩ := okWs_get h.2
    refine ⟨by simp [h1], fun j c e hc he => ?_⟩
    cases j with
    | zero =>
      simp only [List.getElem?_cons_zero, Option.some.injEq] at hc he
      rw [← hc, ← he]; exact h.1
    | succ j => exact h2 j c e (by simpa using hc) (by simpa using he)

theorem firstFits_get : ∀ {ps : List PSh} {fs : List (Bool × List D)}, firstFits ps fs = true → ps.length = fs.length ∧ ∀ (i : Nat) (p : PSh) (q : Bool × List D), ps[i]? = some p → fs[i]? = some q → ∃ ws, p = .v q.1 ws ∧ okWs ws q.2 = true
  | [], [], _ => ⟨rfl, fun i p q h => by simp at h⟩
  | [], _ :: _, h => by simp [firstFits] at h
  | p :: ps, [], h => by cases p <;> simp [firstFits] at h
  | p :: ps, (b, ds) :: fs, h => by
    cases p with
    | v a ws =>
      simp only [firstFits, Bool.and_eq_true, beq_iff_eq] at h
      obtain ⟨h1, h2⟩ := firstFits_get h.2
      refine ⟨by simp [h1], fun i p q hp hq => ?_⟩
      cases i with
      | zero =>
        simp only [List.getElem?_cons_zero, Option.some.injEq] at hp hq
        rw [← hp, ← hq]
        exact ⟨ws, by rw [h.1.1], h.1.2⟩
      | succ i => exact h2 i p q (by simpa using hp) (by simpa using hq)
    | _ => simp [firstFits] at h

theorem capFits_get : ∀ {ps : List PSh} {cs : List (List D)}, capFits ps cs = true → ps.length = cs.length ∧ ∀ (i : Nat) (p : PSh) (q : List D), ps[i]? = some p → cs[i]? = some q → ∃ ws, p = .box true ws ∧ okWs ws q = true
  | [], [], _ => ⟨rfl, fun i p q h => by simp at h⟩
  | [], _ :: _, h => by simp [capFits] at h
  | p :: ps, [], h => by
    cases p with
    | box ro ws => cases ro <;> simp [capFits] at h
    | _ => simp [capFits] at h
  | p :: ps, ds :: cs, h => by
    cases p with
    | box ro ws =>
      cases ro with
      | false => simp [capFits] at h
      | true =>
        simp only [capFits, Bool.and_eq_true] at h
        obtain ⟨h1, h2⟩ := capFits_get h.2
        refine ⟨by simp [h1], fun i p q hp hq => ?_⟩
        cases i with
        | zero =>
          simp only [List.getElem?_cons_zero, Option.some.injEq] at hp hq
          rw [← hp, ← hq]
          exact ⟨ws, rfl, h.1⟩
        | succ i => exact h2 i p q (by simpa using hp) (by simpa using hq)
    | _ => simp [capFits] at h

theorem okWs_kind : ∀ {ws : List CS} {ds : List D}, okWs ws ds = true → ∀ c ∈ ws, c = .s ∨ c = .b ∨ c = .x
  | [], _, _, c, hc => by simp at hc
  | w :: ws, [], h, _, _ => by cases h
  | w :: ws, d :: ds, h, c, hc => by
    simp only [okWs, Bool.and_eq_true] at h
    rcases List.mem_cons.1 hc with rfl | hc
    · cases c <;> simp [okW] at h ⊢
    · exact okWs_kind h.2 c hc

theorem cell_move {w : World} {cx : Cx} {own : Own} (hn : ∀ g, own g = none) {s s' i : Nat} {c : CS} {d : D} {v : Value} (h : CellOk w cx own s i c d v) : CellOk w cx own s' i c d v := by
  refine ⟨h.1, ?_⟩
  have h2 := h.2
  cases c with
  | o m f =>
    cases h2 with
    | nil => exact .nil
    | sl xs g cap cur T fr vs h1 h2 => rw [hn] at h2; cases h2
  | _ => exact h2

theorem slot_move {w : World} {cx : Cx} {own : Own} (hn : ∀ g, own g = none) {E E' : Env} {T T' : Nat → Value} {s s' : Nat} (hE : E s = E' s') (hT : T s = T' s') {p : PSh} (hp : ∀ ws, p ≠ .box false ws) (h : SlotOk w cx own E T s (startSh p)) : SlotOk w cx own E' T' s' (startSh p) := by
  cases p with
  | v a cs =>
    obtain ⟨vs, h1, h2, h3⟩ := h
    rw [hE] at h3; rw [hT] at h1
    exact ⟨vs, h1, h2, h3.imp fun i c d v h => cell_move hn h⟩
  | io a cs =>
    obtain ⟨vs, h1, h2, h3⟩ := h
    rw [hE] at h3; rw [hT] at h1
    exact ⟨vs, h1, h2, h3.imp fun i c d v h => cell_move hn h⟩
  | box ro cs =>
    cases ro with
    | false => exact absurd rfl (hp cs)
    | true =>
      obtain ⟨g, cur, Ty, h1, h2, h3, h4⟩ := h
      rw [hE] at h3; rw [hT] at h1
      exact ⟨g, cur, Ty, h1, h2, h3.imp fun i c d v h => cell_move hn h, h4⟩
  | clo f =>
    obtain ⟨fs, cs, h1, h2⟩ := h
    rw [hE] at h1; rw [hT] at h2
    exact ⟨fs, cs, h1, h2⟩
  | nbox cs => trivial

theorem boxPs_nil : ∀ {ps : List PSh} {k : Nat}, (∀ p ∈ ps, ∀ ws, p ≠ .box false ws) → boxPs ps k = []
  | [], _, _ => rfl
  | p :: ps, k, h => by
    have ih := boxPs_nil (ps := ps) (k := k + 1) (fun q hq => h q (List.mem_cons_of_mem _ hq))
    cases p with
    | box ro ws =>
      cases ro with
      | false => exact absurd rfl (h _ (List.mem_cons_self ..) ws)
      | true => exact ih
    | _ => exact ih

section
variable {P : Program} {C : Cfg} {W : Wld} {w0 : World} {own0 : Own} {cx : Cx} {own : Own} {w : World} {a : Act} {env env' : Env} {L : Look} {g : Gd} {o : Oper} {u : Up} {p : PS} {d : Nat}

theorem cArg_kind {bres : Bool} {x : Operand} {p : PSh} {kp : Nat} {c : CA} (h : cArg L g bres x p kp = some c) : (∀ ws, p ≠ .box true ws) ∧ (c.hs = [] → ∀ ws, p ≠ .box false ws) := by
  unfold cArg at h
  split at h
  · exact ⟨fun ws => by simp, fun _ ws => by simp⟩
  · split at h
    · split at h
      · split at h
        · simp only [Option.some.injEq] at h
          subst h
          exact ⟨fun ws => by simp, fun hb => by simp at hb⟩
        · cases h
      · cases h
    · cases h
  · exact ⟨fun ws => by simp, fun _ ws => by simp⟩
  · cases h

theorem callc_ok (hw : WOk w0 own0 cx own w) (hG : ∀ g, cx.N g → W.G ≤ g) (hP : W.P w) (hL : ∀ z, SlotOk w cx own env (tvA a) z (L z)) (hg : ∀ gs b, g = some (gs, b) → env gs = [.bool b])
    (hod : o.dst = some d) (hd : d < a.tmps.size) {c : Call} {s f : Nat} {deps : List Nat} {sig : Sig} (ho : o.op = .call c) (hce : c.callee = .value (.tmp s)) (hsh0 : shAt L g s = .clo f deps) {Φ : Ask} (hΦ : ∀ ins outs, Φ f sig ins outs → FunOk P W f sig ins outs)
    (hc : cCallc L g d s f sig c.args.toList = some (u, p)) (hp : PRel Φ p env env') : OpOk P cx own w a env o u env' := by
  unfold cCallc at hc
  split at hc
  · cases hc
  rename_i hbres
  split at hc
  · rename_i A sh hA hsh
    split at hc
    · rename_i hAas hAhs hAbs hfine
      simp only [cPut, Option.some.injEq, Prod.mk.injEq] at hc
      obtain ⟨hu, rfl⟩ := hc
      simp only [PRel] at hp
      obtain ⟨fs, cs, rs, hes, hlen, hcaps, hff, hcf, hphi, hrl, rfl⟩ := hp
      obtain ⟨hent, hfun⟩ := hΦ _ _ hphi
      obtain ⟨k1, k2, hh, k4⟩ := cArgs_get hA
      have hslot := shAt_ok hL hg s
      rw [hsh0] at hslot
      obtain ⟨fs', cs', he', hrep⟩ := hslot
      rw [hes] at he'
      simp only [List.cons.injEq, D.fn.injEq, true_and, and_true] at he'
      obtain ⟨rfl, rfl⟩ := he'
      have hA' : A = { os := A.os, rd := A.rd, deps := A.deps } := by
        obtain ⟨a1, a2, a3, a4, a5, a6⟩ := A
        simp only at hAas hAhs hAbs
        subst hAas; subst hAhs; subst hAbs
        rfl
      have hnd : noDup A.aas = true := by rw [hAas]; rfl
      have hds : distinctL (srcs A.hs) = true := by rw [hAhs]; rfl
      have hdst : distinctL (A.hs.map (·.2)) = true := by rw [hAhs]; rfl
      have hrd : A.rd.all (fun l => !((srcs A.hs).any (leafEq l))) = true := by rw [hAhs]; simp [srcs]
      have hdp : A.deps.all (fun x => !((srcs A.hs).any (fun l => Nat.beq l.1 x))) = true := by rw [hAhs]; simp [srcs]
      have hownC : ∀ gg, ownC own A.hs gg = none := fun gg => by
        unfold ownC
        cases own gg with
        | none => rfl
        | some i => simp [hAhs, leafMap]
      obtain ⟨fvs, bl, cvs, q1, q2, q3, q4, q5, q6, q7, q8⟩ := hrep.fn'
      have hbs : ∀ {gg : Nat} {oo : Nat}, gg < w.heap.size → BS (cxC cx own w.heap.size A sig.bres) (ownC own A.hs) gg oo := fun {gg oo} hgg =>
        ⟨not_claimed_of_none (hownC gg), .inl ⟨hgg, not_claimed_of_none (hownC gg), fun e => by rw [hbres] at e; cases e⟩⟩
      have hrep' : ∀ {S : Nat → Nat → Prop} {dd : D} {vv : Value}, Rep w S dd vv → Rep w (BS (cxC cx own w.heap.size A sig.bres) (ownC own A.hs)) dd vv := fun hr =>
        hr.in_ (fun _ _ _ _ h => h) (fun _ cur _ h => ⟨cur, h, rfl⟩) (fun gg oo uu _ hcell => hbs (cell_lt hcell))
      obtain ⟨hfl, hfg⟩ := firstFits_get hff
      obtain ⟨hcl, hcg⟩ := capFits_get hcf
      have hargn : c.args.toList.length = c.args.size := by simp
      have hosl : A.os.length = c.args.size := by rw [k2, ← k1, hargn]
      have hnf : sig.ps.length - nCaps sig.ps - c.args.toList.length = fs.length := by rw [← hcaps, hargn]; omega
      rw [hnf, hargn] at k4 k1 hA k2
      -- what is handed to the function
      let vals : List Value := ((fs.zip fvs).map fun p => wrapV p.1.1 p.2) ++ (c.args.map a.eval).toList ++ (bl.map fun g => Value.pointer (some ⟨g, 0, none⟩))
      let ins : List (List D) := fs.map (·.2) ++ A.os.map (·.get env) ++ cs
      have hvl : vals.length = sig.ps.length := by simp [vals, q1, q2]; omega
      have hins : ins.length = sig.ps.length := by simp [ins, hosl]; omega
      have hwc := wok_callee (bres := sig.bres) hw hnd hh hdst
      have hpart : ∀ (i : Nat) (p : PSh), sig.ps[i]? = some p → (i < fs.length ∧ ∃ q ws, fs[i]? = some q ∧ p = .v q.1 ws ∧ okWs ws q.2 = true) ∨
          (fs.length ≤ i ∧ i < fs.length + c.args.size ∧ ∃ x cc, c.args.toList[i - fs.length]? = some x ∧ cArg L g sig.bres x p (0 + (i - fs.length)) = some cc ∧ cc.Sub A ∧ ∃ oo, cc.os = [oo] ∧ A.os[i - fs.length]? = some oo) ∨
          (fs.length + c.args.size ≤ i ∧ ∃ q ws, cs[i - (fs.length + c.args.size)]? = some q ∧ p = .box true ws ∧ okWs ws q = true) := by
        intro i p hi
        have hil : i < sig.ps.length := (List.getElem?_eq_some_iff.1 hi).1
        by_cases h1 : i < fs.length
        · obtain ⟨ws, e1, e2⟩ := hfg i p fs[i] (by rw [List.getElem?_take, if_pos h1]; exact hi) (List.getElem?_eq_getElem h1)
          exact .inl ⟨h1, _, ws, List.getElem?_eq_getElem h1, e1, e2⟩
        · by_cases h2 : i < fs.length + c.args.size
          · have hx : i - fs.length < c.args.toList.length := by simp; omega
            obtain ⟨cc, m1, m2, oo, m3, m4⟩ := k4 (i - fs.length) _ p (List.getElem?_eq_getElem hx) (by
              rw [List.getElem?_take, if_pos (by omega), List.getElem?_drop, show fs.length + (i - fs.length) = i from by omega]; exact hi)
            exact .inr (.inl ⟨by omega, h2, _, cc, List.getElem?_eq_getElem hx, by rw [hbres]; exact m1, m2, oo, m3, m4⟩)
          · have hcx : i - (fs.length + c.args.size) < cs.length := by omega
            obtain ⟨ws, e1, e2⟩ := hcg (i - (fs.length + c.args.size)) p cs[i - (fs.length + c.args.size)] (by
              rw [hosl, List.getElem?_drop, show fs.length + c.args.size + (i - (fs.length + c.args.size)) = i from by omega]; exact hi) (List.getElem?_eq_getElem hcx)
            exact .inr (.inr ⟨by omega, _, ws, List.getElem?_eq_getElem hcx, e1, e2⟩)
      have hnb : ∀ {x : Operand} {p : PSh} {kp : Nat} {cc : CA}, cArg L g sig.bres x p kp = some cc → cc.Sub A → ∀ ws, p ≠ .box false ws := fun e2 e3 => (cArg_kind e2).2 (List.eq_nil_iff_forall_not_mem.2 fun y hy => by
        have := e3.hs y hy
        rw [hAhs] at this
        simp at this)
      have hzl : ((fs.zip fvs).map fun p => wrapV p.1.1 p.2).length = fs.length := by simp [q1]
      have hml : (c.args.map a.eval).toList.length = c.args.size := by simp
      have hinv : Inv (start sig) w (cxC cx own w.heap.size A sig.bres) (ownC own A.hs) (envL ins) (tvL vals) := by
        intro q hq
        obtain ⟨i, p, hi, rfl⟩ := starts_get hq
        rw [Nat.zero_add]
        rcases hpart i p hi with ⟨h1, q, ws, e1, rfl, e3⟩ | ⟨h1, h2, x, cc, e1, e2, e3, oo, e4, e5⟩ | ⟨h1, q, ws, e1, rfl, e3⟩
        · have hvi : i < fvs.length := by omega
          have hvs : fvs[i]? = some fvs[i] := List.getElem?_eq_getElem hvi
          obtain ⟨r1, r2⟩ := q3 i q _ e1 hvs
          have hE : envL ins i = q.2 := by
            show ins.getD i [] = q.2
            rw [List.getD_eq_getElem?_getD, show ins = fs.map (·.2) ++ (A.os.map (·.get env) ++ cs) from List.append_assoc _ _ _, List.getElem?_append_left (by simpa using h1), List.getElem?_map, e1]; rfl
          have hT : tvL vals i = wrapV q.1 fvs[i] := by
            show vals.getD i undef = _
            rw [List.getD_eq_getElem?_getD, show vals = ((fs.zip fvs).map fun p => wrapV p.1.1 p.2) ++ ((c.args.map a.eval).toList ++ (bl.map fun g => Value.pointer (some ⟨g, 0, none⟩))) from List.append_assoc _ _ _, List.getElem?_append_left (by rw [hzl]; exact h1), List.getElem?_map]
            have : (fs.zip fvs)[i]? = some (q, fvs[i]) := by rw [List.getElem?_zip_eq_some]; exact ⟨e1, hvs⟩
            rw [this]; rfl
          obtain ⟨t1, t2⟩ := okWs_get e3
          refine ⟨fvs[i], hT, r2, by rw [hE]; exact t1, by rw [hE]; exact r1, fun j c' dd vv hc' hdd hvv => ?_⟩
          rw [hE] at hdd
          exact okW_ok (t2 j c' dd hc' hdd) (hrep' (q4 i q _ j dd vv e1 hvs hdd hvv))
        · obtain ⟨o', n1, n2⟩ := cArg_ok (E := fun _ => oo.get env) (T := fun _ => a.eval x) hw hL hg hnd hh hds hrd hdp e2 e3
          rw [e4] at n1
          simp only [List.cons.injEq, and_true] at n1
          subst n1
          have hE : envL ins i = oo.get env := by
            show ins.getD i [] = _
            rw [List.getD_eq_getElem?_getD, show ins = fs.map (·.2) ++ (A.os.map (·.get env) ++ cs) from List.append_assoc _ _ _, List.getElem?_append_right (by simpa using h1), List.getElem?_append_left (by simp [hosl]; omega), List.getElem?_map]
            simp [e5]
          have hT : tvL vals i = a.eval x := by
            show vals.getD i undef = _
            rw [List.getD_eq_getElem?_getD, show vals = ((fs.zip fvs).map fun p => wrapV p.1.1 p.2) ++ ((c.args.map a.eval).toList ++ (bl.map fun g => Value.pointer (some ⟨g, 0, none⟩))) from List.append_assoc _ _ _, List.getElem?_append_right (by rw [hzl]; exact h1), hzl, List.getElem?_append_left (by rw [hml]; omega)]
            simp only [Array.getElem?_toList] at e1
            simp [e1]
          exact slot_move hownC hE.symm hT.symm (hnb e2 e3) (n2 rfl rfl)
        · have hcx : i - (fs.length + c.args.size) < cs.length := (List.getElem?_eq_some_iff.1 e1).1
          have hbi : i - (fs.length + c.args.size) < bl.length := by omega
          have hbe : bl[i - (fs.length + c.args.size)]? = some bl[i - (fs.length + c.args.size)] := List.getElem?_eq_getElem hbi
          obtain ⟨cur, T, r1, r2⟩ := q5 _ q _ e1 hbe
          have hE : envL ins i = q := by
            show ins.getD i [] = q
            rw [List.getD_eq_getElem?_getD, List.getElem?_append_right (by simp [hosl]; omega)]
            have : i - (fs.map (·.2) ++ A.os.map (·.get env)).length = i - (fs.length + c.args.size) := by simp [hosl]
            rw [this, e1]; rfl
          have hT : tvL vals i = .pointer (some ⟨bl[i - (fs.length + c.args.size)], 0, none⟩) := by
            show vals.getD i undef = _
            rw [List.getD_eq_getElem?_getD, List.getElem?_append_right (by rw [List.length_append, hzl, hml]; omega)]
            have : i - (((fs.zip fvs).map fun p => wrapV p.1.1 p.2) ++ (c.args.map a.eval).toList).length = i - (fs.length + c.args.size) := by rw [List.length_append, hzl, hml]
            rw [this, List.getElem?_map, hbe]; rfl
          obtain ⟨t1, t2⟩ := okWs_get e3
          refine ⟨_, cur, T, hT, r1, ⟨by rw [hE]; exact t1, by rw [hE]; simpa using r2, fun j c' dd vv hc' hdd hvv => ?_⟩, ?_⟩
          · rw [hE] at hdd
            obtain ⟨s1, s2⟩ := q6 _ q _ j dd e1 hbe hdd
            have : cvs (i - (fs.length + c.args.size)) j = vv := by
              rw [cell_of_heap r1] at s1
              have h3 : cur[j]? = some vv := by simpa using hvv
              rw [s1] at h3
              simpa using h3
            rw [← this]
            exact okW_ok (t2 j c' dd hc' hdd) (hrep' (q7 _ q _ j dd e1 hbe hdd))
          · simp only [if_true]
            exact ⟨hownC _, fun j _ => .inl ⟨heap_lt r1, not_claimed_of_none (hownC _), fun e => by rw [hbres] at e; cases e⟩, okWs_kind e3⟩
      intro K Q hK
      unfold Oper.wp
      rw [exec_callc ho hce hent w q8]
      show Calls P f _ w _
      have hcall := hfun w (ownC own A.hs) (cxC cx own w.heap.size A sig.bres) vals hP hwc (fun gg j hj => by rw [hownC] at hj; cases hj) hvl hins hinv
      have hva : ((fs.zip fvs).map fun p => wrapV p.1.1 p.2).toArray ++ c.args.map a.eval ++ (bl.map fun g => Value.pointer (some ⟨g, 0, none⟩)).toArray = vals.toArray := by
        apply Array.ext'
        simp [vals]
      rw [hva]
      refine Calls.mono hcall ?_
      rintro e w1 ⟨v, ownE, rfl, hw1, hres⟩
      have hnobox : boxPs sig.ps 0 = [] := boxPs_nil (fun p hp ws e => by
        obtain ⟨i, hi⟩ := List.getElem?_of_mem hp
        rcases hpart i p hi with ⟨_, q, ws', _, e2, _⟩ | ⟨_, _, x, cc, _, e2, e3, _⟩ | ⟨_, q, ws', _, e2, _⟩
        · rw [e] at e2; cases e2
        · exact hnb e2 e3 ws e
        · rw [e] at e2; simp at e2)
      have := call_tail (o := o) (xs := []) (rs := rs) hw hd hod (A := A) (u := u) (env := env) (by rw [← hu, hAas, hAbs]) hsh hfine hnd hds (by rw [hAbs]; rfl) hh (by rw [hAbs]; simp) ⟨by rw [hAas]; simp, by rw [hAbs, hnobox]; rfl, by rw [hnobox]; simp⟩ hrl (by rw [hAbs]; rfl) hw1 (by simpa using hres)
      rw [hAbs] at this
      exact hK _ w1 (a.put o.dst v) this
    · cases hc
  · cases hc

end

end V
end Go.Proofs.Ytgialjcichiaoaa

/-
One operation of a region, with its guard.
-/
namespace Go.Proofs.Ytgialjcichiaoaa
namespace V

theorem firstSome_some {f : Sig → Out} : ∀ {l : List Sig} {r : Up × PS}, firstSome f l = some r → ∃ s ∈ l, f s = some r
  | [], r, h => by cases h
  | s :: l, r, h => by
    simp only [firstSome] at h
    split at h
    · rename_i o ho
      exact ⟨s, List.mem_cons_self .., by rw [ho]; exact h⟩
    · obtain ⟨s', h1, h2⟩ := firstSome_some h
      exact ⟨s', List.mem_cons_of_mem _ h1, h2⟩

theorem PRel_pure {Φ : Ask} {p : PS} {e e' : Env} (h : pureP p = true) (hp : PRel Φ p e e') : pstep p e = some e' := by
  cases p <;> first | exact hp | cases h

section
variable {P : Program} {C : Cfg} {W : Wld} {w0 : World} {own0 : Own} {cx : Cx} {own : Own} {w : World} {a : Act} {env env' : Env} {L : Look} {g : Gd} {o : Oper} {u : Up} {p : PS} {d : Nat} {Φ : Ask}

theorem opx_ok (hC : CfgOk P C) (hE : EqOk P C) (hΦ : ∀ f sig ins outs, Φ f sig ins outs → FunOk P W f sig ins outs) (hw : WOk w0 own0 cx own w) (hG : ∀ g, cx.N g → W.G ≤ g) (hP : W.P w)
    (hL : ∀ z, SlotOk w cx own env (tvA a) z (L z)) (hg : ∀ gs b, g = some (gs, b) → env gs = [.bool b])
    (hd : ∀ d, o.dst = some d → d < a.tmps.size) (hn : ∀ d sh, u.dst = some (d, sh) → sh.names d = false) (hk : (isCall o.op || pureP p) = true) (hc : cOp C L g o = some (u, p)) (hp : PRel Φ p env env') : OpOk P cx own w a env o u env' := by
  cases hcl : isCall o.op with
  | false =>
    rw [hcl] at hk
    exact op_ok hC hE hw hL hg hd hn (PRel_pure (by simpa using hk) hp) hcl hc
  | true =>
    unfold isCall at hcl
    split at hcl
    · rename_i c ho
      split at hcl
      · rename_i x hce
        unfold cOp at hc
        split at hc
        all_goals try (rename_i he _; rw [ho] at he; cases he)
        all_goals try (rename_i he _ _; rw [ho] at he; cases he)
        · rename_i he
          split at hc
          · rename_i hb _ _; rw [hce] at hb; cases hb
          · rename_i hb _; rw [hce] at hb; cases hb
          · rename_i hb _ _; rw [hce] at hb; cases hb
          · rename_i f hb
            obtain ⟨sig, _, h⟩ := firstSome_some hc
            exact call_ok hw hG hP hL hg he (hd _ he) ho hb (hΦ f sig) h hp
          · rename_i s hb
            split at hc
            · rename_i f deps hsh
              obtain ⟨sig, _, h⟩ := firstSome_some hc
              exact callc_ok hw hG hP hL hg he (hd _ he) ho hb hsh (hΦ f sig) h hp
            · cases hc
          · cases hc
        · cases hc
      · cases hcl
    · cases hcl

/-- What holds of one operation of a region behind it, whether it is done or not. -/
def StepOk (P : Program) (ops : Array Oper) (cx : Cx) (own : Own) (w : World) (a : Act) (env : Env) (i : Nat) (u : Up) (env' : Env) : Prop :=
  ∀ (K : Act → World → Prop) (Q : Exit → Act → World → Prop), (∀ own' w' a', Done cx own w a env u own' w' a' env' → K a' w') → wpOp P ops Q i K a w

theorem yielded_eq {ops : Array Oper} {j gs : Nat} (h : (ops[j]?).bind (·.dst) = some gs) : yielded ops a.tmps j = match tvA a gs with | .bool b => some b | _ => none := by
  unfold yielded tvA
  rw [h]
  simp only [Option.bind_some, Array.getD_eq_getD_getElem?]
  cases hg : a.tmps[gs]? with
  | none => rfl
  | some v => cases v <;> rfl

theorem gOk_ok {s : Nat} : ∀ {sh : Sh}, gOk sh = true → SlotOk w cx own env (tvA a) s sh → ∀ b, env s = [.bool b] ↔ tvA a s = .bool b := by
  intro sh
  induction sh with
  | v ag cs =>
    intro h hs b
    unfold gOk at h
    split at h
    · rename_i e
      simp only [Sh.v.injEq] at e
      obtain ⟨rfl, rfl⟩ := e
      obtain ⟨vs, h1, h2, h3⟩ := hs
      obtain ⟨d, v, h4, rfl, h5⟩ := h3.one
      rw [h4, h1]
      have h6 := h5.2
      show [d] = [.bool b] ↔ v = .bool b
      constructor
      · intro e
        simp only [List.cons.injEq, and_true] at e
        rw [e] at h6
        exact Scal.bool' h6
      · intro e
        rw [e] at h6
        cases h6
        rfl
    · rename_i e; cases e
    · cases h
  | opt g b' sh ih =>
    intro h hs b
    simp only [gOk] at h
    by_cases hg : env g = [.bool b']
    · exact ih h (hs.1 hg) b
    · obtain ⟨h1, h2⟩ := hs.2 hg
      rw [h1, h2]
      constructor
      · intro e; cases e
      · intro e; cases e
  | _ => intro h; simp [gOk] at h

theorem gBx_ok {p : Nat × Sh} (h : gBx L d p = true) : p.1 ≠ d ∧ L p.1 = p.2 ∧ ∃ cs, p.2 = .box false cs ∧ ∀ c ∈ cs, plainC c = true := by
  unfold gBx at h
  simp only [Bool.and_eq_true, decide_eq_true_eq, Bool.not_eq_true'] at h
  refine ⟨fun e => ?_, h.1.2, ?_⟩
  · have h1 := h.1.1
    rw [e, show Nat.beq d d = true from Nat.beq_refl d] at h1
    cases h1
  have h2 := h.2
  split at h2
  · rename_i cs e
    exact ⟨cs, e, fun c hc => List.all_eq_true.1 h2 c hc⟩
  · cases h2

theorem affOpt_move {x : Aff} (h : affOpt x = true) : MoveAff x := by
  unfold affOpt at h
  split at h
  · rename_i e1 e2; exact ⟨e1.trans e2.symm, .inr (.inl e2)⟩
  · rename_i e1 e2; exact ⟨e1.trans e2.symm, .inr (.inr (.inr e2))⟩
  · rename_i e1 e2; exact ⟨e1.trans e2.symm, .inr (.inr (.inl e2))⟩
  · cases h

theorem Done.opt {aas : List Aff} {bx : List (Nat × Sh)} {sh : Sh} {gs : Nat} {b : Bool} {own' : Own} {w' : World} {a' : Act} (hD : Done cx own w a env { aff := aas, bx := bx, dst := some (d, sh) } own' w' a' env') (hgd : gs ≠ d) (hgb : ∀ p ∈ bx, p.1 ≠ gs) (hg : env gs = [.bool b]) :
    Done cx own w a env { aff := aas, bx := bx, dst := some (d, .opt gs b sh) } own' w' a' env' := by
  have henv : env' gs = env gs := hD.st.env gs (by
    rintro (h | ⟨p, hp, h⟩)
    · exact hgd (Nat.eq_of_beq_eq_true h)
    · exact hgb p hp h)
  refine ⟨hD.st, ⟨hD.af.no, hD.af.to, hD.af.ow, hD.af.drop⟩, hD.bx, fun d' sh' h => ?_, hD.size, hD.defers⟩
  simp only [Option.some.injEq, Prod.mk.injEq] at h
  obtain ⟨rfl, rfl⟩ := h
  exact ⟨fun _ => hD.dst d sh rfl, fun h => absurd (henv.trans hg) h⟩

/-- What the checker says of an operation and its guard. -/
theorem cOper_cases (hsz : a.tmps.size = C.n) {ops : Array Oper} (hc : cOper C ops L o = some (u, p)) :
    (∀ d sh, u.dst = some (d, sh) → sh.names d = false ∧ d < a.tmps.size ∧ C.pin.any (Nat.beq d) = false) ∧ o.dst = u.dst.map (·.1) ∧
    ((o.guard = none ∧ cOp C L none o = some (u, p) ∧ (isCall o.op || pureP p) = true) ∨
     (∃ j b gs aas bx d sh ps, o.guard = some (j, b) ∧ (ops[j]?).bind (·.dst) = some gs ∧ cOp C L (some (gs, b)) o = some ({ aff := aas, bx := bx, dst := some (d, sh) }, ps) ∧ (isCall o.op || pureP ps) = true ∧
       u = { aff := aas, bx := bx, dst := some (d, .opt gs b sh) } ∧ p = .g gs b d ps ∧ gs ≠ d ∧ bx.all (gBx L d) = true ∧ aas.all affOpt = true ∧ gOk (L gs) = true ∧ noDup aas = true)) := by
  unfold cOper at hc
  split at hc
  · cases hc
  rename_i u0 p0 h0
  split at hc
  · cases hc
  rename_i hkind
  have hup : u0 = u ∧ p0 = p ∧ (∀ d sh, u.dst = some (d, sh) → sh.names d = false ∧ d < a.tmps.size ∧ C.pin.any (Nat.beq d) = false) ∧ o.dst = u.dst.map (·.1) := by
    split at hc
    · rename_i hod hdn
      simp only [Option.some.injEq, Prod.mk.injEq] at hc
      obtain ⟨rfl, rfl⟩ := hc
      exact ⟨rfl, rfl, (fun d sh h => by rw [hdn] at h; cases h), by rw [hod, hdn]; rfl⟩
    · rename_i d0 d sh hod hds
      split at hc
      · cases hc
      · rename_i hnn
        simp only [Option.some.injEq, Prod.mk.injEq] at hc
        obtain ⟨rfl, rfl⟩ := hc
        simp only [Bool.or_eq_false_iff, Bool.not_eq_false'] at hnn
        refine ⟨rfl, rfl, (fun d' sh' h => ?_), by rw [hod, hds, Nat.eq_of_beq_eq_true hnn.1.1.1]; rfl⟩
        rw [hds] at h
        simp only [Option.some.injEq, Prod.mk.injEq] at h
        obtain ⟨rfl, rfl⟩ := h
        refine ⟨hnn.1.1.2, ?_, hnn.2⟩
        rw [hsz]
        rcases Nat.lt_or_ge d C.n with h | h
        · exact h
        · rw [Nat.ble_eq_true_of_le h] at hnn; cases hnn.1.2
    · cases hc
  obtain ⟨rfl, rfl, hdn, hod⟩ := hup
  refine ⟨hdn, hod, ?_⟩
  unfold cOper0 at h0
  split at h0
  · rename_i hgd
    exact .inl ⟨hgd, h0, by rw [hgd] at hkind; simpa using hkind⟩
  · rename_i j b hgd
    split at h0
    · cases h0
    rename_i gs hgs
    split at h0
    · rename_i aas bx d sh ps hcop
      split at h0
      · cases h0
      rename_i hkp
      split at h0
      · cases h0
      rename_i hcond
      simp only [Option.some.injEq, Prod.mk.injEq] at h0
      obtain ⟨rfl, rfl⟩ := h0
      simp only [Bool.not_eq_true, Bool.or_eq_false_iff, Bool.not_eq_false', decide_eq_false_iff_not] at hcond hkp
      obtain ⟨⟨⟨⟨hgd', hbx⟩, has⟩, hgk⟩, hnd⟩ := hcond
      exact .inr ⟨j, b, gs, aas, bx, d, sh, ps, hgd, hgs, hcop, hkp, rfl, rfl, hgd', hbx, has, hgk, hnd⟩
    · cases h0

/-- An operation whose guard does not hold. -/
theorem skip_done (hw : WOk w0 own0 cx own w) (hL : ∀ z, SlotOk w cx own env (tvA a) z (L z)) {gs : Nat} {b : Bool} {aas : List Aff} {bx : List (Nat × Sh)} {sh : Sh} (hod : o.dst = some d) (hds : d < a.tmps.size) (hgd' : gs ≠ d) (hbx : bx.all (gBx L d) = true) (has : aas.all affOpt = true)
    (hnd : noDup aas = true) (hgf : env gs ≠ [.bool b]) : ∃ own', Done cx own w a env { aff := aas, bx := bx, dst := some (d, .opt gs b sh) } own' w (a.put o.dst undef) (put env d []) := by
  rw [hod]
  have hmv : ∀ x ∈ aas, MoveAff x := fun x hx => affOpt_move (List.all_eq_true.1 has x hx)
  refine ⟨_, done_new (nb := none) (gb := fun _ => False) hw (HeapOk.same_world own w _) (fun _ _ h => h.elim) hnd (fun x hx => .inl (hmv x hx)) (fun k h => by cases h) (fun s hs => ?_) (fun s hs => ?_) (by simp [Act.put]) rfl (fun st af => ⟨fun q hq _ => ?_, fun d' sh' h => ?_⟩)⟩
  · exact put_ne _ _ _ _ (fun e => hs (.inl (by rw [e]; exact Nat.beq_refl d)))
  · rw [tvA_put a d _ hds, if_neg (fun e => hs (by rw [e]; rfl))]
  · obtain ⟨hqd, h1, cs, h2, h3⟩ := gBx_ok (List.all_eq_true.1 hbx q hq)
    have hq0 := hL q.1
    rw [h1] at hq0
    rw [h2] at hq0 ⊢
    obtain ⟨gg, cur, T, r1, r2, r3, r4⟩ := hq0
    simp only [Bool.false_eq_true, if_false] at r4
    refine ⟨gg, cur, T, by rw [tvA_put a d _ hds, if_neg hqd]; exact r1, r2, ⟨by rw [put_ne _ _ _ _ hqd]; exact r3.1, by rw [put_ne _ _ _ _ hqd]; exact r3.2.1, fun k c x v hc hx hv => ?_⟩, ?_⟩
    · rw [put_ne _ _ _ _ hqd] at hx
      have h4 := r3.2.2 k c x v hc hx hv
      refine ⟨h4.1, ?_⟩
      have h5 := h4.2
      have h6 := h3 c (List.mem_of_getElem? hc)
      cases c with
      | n => exact h5
      | s => exact h5
      | r => exact st.rs h5
      | b => exact st.bs h5
      | x => trivial
      | o m f => cases h6
      | al _ _ _ _ => cases h6
    · simp only [Bool.false_eq_true, if_false]
      rw [newOwn_old hw r4]
      unfold relabU
      simp only
      rw [if_neg]
      intro h
      exact hqd (Nat.eq_of_beq_eq_true h)
  · simp only [Option.some.injEq, Prod.mk.injEq] at h
    obtain ⟨rfl, rfl⟩ := h
    have henv : put env d [] gs = env gs := put_ne _ _ _ _ hgd'
    exact ⟨fun h => absurd (henv ▸ h) hgf, fun _ => ⟨by rw [tvA_put a d _ hds, if_pos rfl], put_self _ _ _⟩⟩

theorem wanted_none {ops : Array Oper} (hgd : o.guard = none) : Region.wanted o (yielded ops a.tmps) = true := by unfold Region.wanted; rw [hgd]

theorem wanted_some (hL : ∀ z, SlotOk w cx own env (tvA a) z (L z)) {ops : Array Oper} {j gs : Nat} {b : Bool} (hgd : o.guard = some (j, b)) (hgs : (ops[j]?).bind (·.dst) = some gs) (hgk : gOk (L gs) = true) : Region.wanted o (yielded ops a.tmps) = true ↔ env gs = [.bool b] := by
  have hg1 := gOk_ok hgk (hL gs)
  have hy := yielded_eq (a := a) hgs
  unfold Region.wanted
  rw [hgd]
  simp only [hy]
  constructor
  · intro h
    cases htv : tvA a gs with
    | bool b' =>
      rw [htv] at h
      simp only [beq_iff_eq, Option.some.injEq] at h
      exact (hg1 b).2 (by rw [htv, h])
    | _ => rw [htv] at h; simp at h
  · intro h
    rw [(hg1 b).1 h]
    simp

theorem bx_ne_gs {gs : Nat} {bx : List (Nat × Sh)} (hbx : bx.all (gBx L d) = true) (hgk : gOk (L gs) = true) : ∀ p ∈ bx, p.1 ≠ gs := fun p hp e => by
  obtain ⟨_, h1, cs, h2, _⟩ := gBx_ok (List.all_eq_true.1 hbx p hp)
  rw [e, h2] at h1
  rw [h1] at hgk
  cases hgk

theorem oper_ok (hC : CfgOk P C) (hE : EqOk P C) (hΦ : ∀ f sig ins outs, Φ f sig ins outs → FunOk P W f sig ins outs) (hw : WOk w0 own0 cx own w) (hG : ∀ g, cx.N g → W.G ≤ g) (hP : W.P w)
    (hL : ∀ z, SlotOk w cx own env (tvA a) z (L z)) (hsz : a.tmps.size = C.n) {ops : Array Oper} {i : Nat} (hi : ops[i]? = some o) (hc : cOper C ops L o = some (u, p)) (hp : PRel Φ p env env') : StepOk P ops cx own w a env i u env' := by
  intro K Q hK
  unfold wpOp
  rw [hi]
  simp only
  obtain ⟨hdn, hod, ⟨hgd, h0, hk⟩ | ⟨j, b, gs, aas, bx, d, sh, ps, hgd, hgs, hcop, hkp, rfl, rfl, hgd', hbx, has, hgk, hnd⟩⟩ := cOper_cases hsz hc
  · rw [if_pos (wanted_none hgd)]
    refine .inl (opx_ok hC hE hΦ hw hG hP hL (fun gs b h => by cases h) (fun d hd => ?_) (fun d sh h => (hdn d sh h).1) hk h0 hp K Q hK)
    rw [hod] at hd
    cases hu : u.dst with
    | none => rw [hu] at hd; cases hd
    | some q =>
      rw [hu] at hd
      simp only [Option.map_some, Option.some.injEq] at hd
      rw [← hd]
      exact (hdn q.1 q.2 hu).2.1
  · obtain ⟨hnm, hds, _⟩ := hdn d _ rfl
    have hod : o.dst = some d := hod
    have hwt := wanted_some hL hgd hgs hgk
    simp only [PRel] at hp
    rcases hp with ⟨hgt, hp⟩ | ⟨hgf, rfl⟩
    · rw [if_pos (hwt.2 hgt)]
      refine .inl (opx_ok hC hE hΦ hw hG hP hL (g := some (gs, b)) (fun gs' b' h => by
        simp only [Option.some.injEq, Prod.mk.injEq] at h
        obtain ⟨rfl, rfl⟩ := h
        exact hgt) (fun d' hd' => ?_) (fun d' sh' h => ?_) hkp hcop hp K Q (fun own' w' a' hD => hK own' w' a' (hD.opt hgd' (bx_ne_gs hbx hgk) hgt)))
      · rw [hod] at hd'
        simp only [Option.some.injEq] at hd'
        rw [← hd']; exact hds
      · simp only [Option.some.injEq, Prod.mk.injEq] at h
        obtain ⟨rfl, rfl⟩ := h
        simp only [Sh.names, Bool.or_eq_false_iff] at hnm
        exact hnm.2
    · rw [if_neg (fun h => hgf (hwt.1 h))]
      obtain ⟨own', hD⟩ := skip_done (sh := sh) hw hL hod hds hgd' hbx has hnd hgf
      exact hK own' w _ hD

end

end V
end Go.Proofs.Ytgialjcichiaoaa

/-
Operations that ask nothing of the world.
-/
namespace Go.Proofs.Ytgialjcichiaoaa
namespace V

section
variable {P : Program} {C : Cfg} {W : Wld} {w0 : World} {own0 : Own} {cx : Cx} {own : Own} {w : World} {a : Act} {env env' : Env} {L : Look} {g : Gd} {o : Oper} {u : Up} {p : PS} {d : Nat} {Φ : Ask}

theorem isLen_iff {c : Call} (h : isLen c = true) : c.callee = .builtin .len := by
  unfold isLen at h
  split at h
  · assumption
  · cases h

theorem quiet_nocall {op : Op} {p : PS} (h : quietO op p = true) : isCall op = false := by
  unfold quietO at h
  split at h <;> first
    | rfl
    | (rename_i c; unfold isCall; simp only [isLen_iff h]; done)
    | cases h

theorem opq_ok (hC : CfgOk P C) (hw : WOk w0 own0 cx own w) (hL : ∀ z, SlotOk w cx own env (tvA a) z (L z)) (hg : ∀ gs b, g = some (gs, b) → env gs = [.bool b])
    (hd : ∀ d, o.dst = some d → d < a.tmps.size) (hn : ∀ d sh, u.dst = some (d, sh) → sh.names d = false) (hp : pstep p env = some env') (hq : quietO o.op p = true) (hc : cOp C L g o = some (u, p)) : RunsQ P cx own w a env o u env' := by
  unfold cOp at hc
  split at hc
  case h_1 => rename_i x d ho hod; exact move_ok hw hL hg hod (hd d hod) hn hp (fun w2 => exec_move (w := w2) x (.inl ho)) hc
  case h_3 => rename_i c x y d ho hod; exact pick_ok hw hL hg hod (hd d hod) hn hp ho hc
  case h_10 => rename_i x d ho hod; exact nil_ok hw hL hg hod (hd d hod) hn hp ho hc
  case h_11 =>
    rename_i op t x y pos d ho hod
    split at hc
    · cases hc
    rename_i ti hti
    split at hc
    · rename_i hs
      simp only [Bool.and_eq_true] at hs
      split at hc
      · rename_i hde
        split at hc
        · simp only [cPut, Option.some.injEq, Prod.mk.injEq] at hc
          obtain ⟨rfl, rfl⟩ := hc
          exact beq_ok hw hL hg hod (hd d hod) hp ((hC t ti hti).bool hde) (.inl ⟨rfl, rfl⟩) ho hs.1 hs.2 rfl
        · simp only [cPut, Option.some.injEq, Prod.mk.injEq] at hc
          obtain ⟨rfl, rfl⟩ := hc
          exact beq_ok hw hL hg hod (hd d hod) hp ((hC t ti hti).bool hde) (.inr ⟨rfl, rfl⟩) ho hs.1 hs.2 rfl
        · cases hc
      · simp only [cPut, Option.some.injEq, Prod.mk.injEq] at hc
        obtain ⟨rfl, rfl⟩ := hc
        exact bin_ok hw hL hg hod (hd d hod) hp ho hs.1 hs.2 rfl
    · split at hc
      · split at hc
        · split at hc
          · simp only [cPut, Option.some.injEq, Prod.mk.injEq] at hc
            rw [ho, ← hc.2] at hq; cases hq
          · simp only [cPut, Option.some.injEq, Prod.mk.injEq] at hc
            rw [ho, ← hc.2] at hq; cases hq
          · cases hc
        · cases hc
      · cases hc
  case h_12 =>
    rename_i op t x d ho hod
    split at hc
    · rename_i hx
      simp only [cPut, Option.some.injEq, Prod.mk.injEq] at hc
      obtain ⟨rfl, rfl⟩ := hc
      exact un_ok hw hL hg hod (hd d hod) hp ho hx rfl
    · cases hc
  case h_16 => rename_i t x k d ho hod; exact fieldAddr_ok hC hw hL hg hod (hd d hod) hn hp ho hc
  case h_17 => rename_i t x k d ho hod; exact field_ok hC hw hL hg hod (hd d hod) hn hp ho hc
  case h_18 => rename_i t x i d ho hod; exact indexAddr_ok hC hw hL hg hod (hd d hod) hn hp ho hc
  case h_19 => rename_i t x i d ho hod; exact index_ok hC hw hL hg hod (hd d hod) hn hp ho hc
  case h_20 => rename_i x k d ho hod; exact extract_ok hC hw hL hg hod (hd d hod) hn hp ho hc
  case h_22 =>
    rename_i c d ho hod
    rw [ho] at hq
    have hce := isLen_iff hq
    split at hc
    · rename_i x t hb hargs htys
      split at hc
      · rename_i ti hti
        split at hc
        · rename_i e hde
          split at hc
          · rename_i k hk
            simp only [cPut, Option.some.injEq, Prod.mk.injEq] at hc
            obtain ⟨rfl, rfl⟩ := hc
            exact lenL_ok hC hw hL hg hod (hd d hod) hn hp ho hb hargs htys hti hde hk rfl
          · cases hc
        · rename_i hde
          split at hc
          · rename_i hk
            simp only [cPut, Option.some.injEq, Prod.mk.injEq] at hc
            obtain ⟨rfl, rfl⟩ := hc
            exact lenS_ok hC hw hL hg hod (hd d hod) hn hp ho hb hargs htys hti hde hk rfl
          · cases hc
        · cases hc
      · cases hc
    · rename_i hb _; rw [hce] at hb; cases hb
    · rename_i hb _ _; rw [hce] at hb; cases hb
    · rename_i hb; rw [hce] at hb; cases hb
    · rename_i hb; rw [hce] at hb; cases hb
    · cases hc
  all_goals try (rename_i ho _; rw [ho] at hq; cases hq)
  all_goals try (rename_i ho _ _; rw [ho] at hq; cases hq)
  all_goals cases hc

theorem operQ_ok (hC : CfgOk P C) (hw : WOk w0 own0 cx own w) (hL : ∀ z, SlotOk w cx own env (tvA a) z (L z)) (hsz : a.tmps.size = C.n) {ops : Array Oper}
    (hc : cOper C ops L o = some (u, p)) (hq : quietP o p = true) (hp : PRel Φ p env env') : ∃ v own', Yields P ops o v a ∧ Done cx own w a env u own' w (a.put o.dst v) env' := by
  obtain ⟨hdn, hod, ⟨hgd, h0, hk⟩ | ⟨j, b, gs, aas, bx, d, sh, ps, hgd, hgs, hcop, hkp, rfl, rfl, hgd', hbx, has, hgk, hnd⟩⟩ := cOper_cases hsz hc
  · have hdd : ∀ d, o.dst = some d → d < a.tmps.size := fun d hd => by
      rw [hod] at hd
      cases hu : u.dst with
      | none => rw [hu] at hd; cases hd
      | some q =>
        rw [hu] at hd
        simp only [Option.map_some, Option.some.injEq] at hd
        rw [← hd]
        exact (hdn q.1 q.2 hu).2.1
    unfold quietP at hq
    rw [hgd] at hq
    have hnc : isCall o.op = false := quiet_nocall hq
    rw [hnc] at hk
    obtain ⟨v, own', hr, hD⟩ := opq_ok hC hw hL (fun gs b h => by cases h) hdd (fun d sh h => (hdn d sh h).1) (PRel_pure (by simpa using hk) hp) hq h0
    exact ⟨v, own', .inl ⟨wanted_none hgd, hr⟩, hD⟩
  · obtain ⟨hnm, hds, _⟩ := hdn d _ rfl
    have hod : o.dst = some d := hod
    have hwt := wanted_some hL hgd hgs hgk
    unfold quietP at hq
    rw [hgd] at hq
    dsimp only at hq
    have hnc : isCall o.op = false := quiet_nocall hq
    rw [hnc] at hkp
    simp only [PRel] at hp
    rcases hp with ⟨hgt, hp⟩ | ⟨hgf, rfl⟩
    · obtain ⟨v, own', hr, hD⟩ := opq_ok hC hw hL (g := some (gs, b)) (fun gs' b' h => by
        simp only [Option.some.injEq, Prod.mk.injEq] at h
        obtain ⟨rfl, rfl⟩ := h
        exact hgt) (fun d' hd' => by
          rw [hod] at hd'
          simp only [Option.some.injEq] at hd'
          rw [← hd']; exact hds) (fun d' sh' h => by
          simp only [Option.some.injEq, Prod.mk.injEq] at h
          obtain ⟨rfl, rfl⟩ := h
          simp only [Sh.names, Bool.or_eq_false_iff] at hnm
          exact hnm.2) (PRel_pure (by simpa using hkp) hp) hq hcop
      exact ⟨v, own', .inl ⟨hwt.2 hgt, hr⟩, hD.opt hgd' (bx_ne_gs hbx hgk) hgt⟩
    · obtain ⟨own', hD⟩ := skip_done (sh := sh) hw hL hod hds hgd' hbx has hnd hgf
      refine ⟨undef, own', .inr ⟨?_, rfl⟩, hD⟩
      cases hb : Region.wanted o (yielded ops a.tmps) with
      | false => rfl
      | true => exact absurd (hwt.1 hb) hgf

end

end V
end Go.Proofs.Ytgialjcichiaoaa

/-
Two statements that do not meet may be done in either order.
-/
namespace Go.Proofs.Ytgialjcichiaoaa
namespace V

def putL (e : Env) : List (Nat × List D) → Env
  | [] => e
  | (d, c) :: r => putL (put e d c) r

theorem putL_ne : ∀ {l : List (Nat × List D)} {e : Env} {s : Nat}, s ∉ l.map (·.1) → putL e l s = e s
  | [], _, _, _ => rfl
  | (d, c) :: r, e, s, h => by
    simp only [List.map_cons, List.mem_cons, not_or] at h
    simp only [putL]
    rw [putL_ne h.2, put_ne _ _ _ _ h.1]

theorem putL_mem : ∀ {l : List (Nat × List D)} {e e' : Env} {s : Nat}, s ∈ l.map (·.1) → putL e l s = putL e' l s
  | [], _, _, _, h => by simp at h
  | (d, c) :: r, e, e', s, h => by
    simp only [putL]
    by_cases hr : s ∈ r.map (·.1)
    · exact putL_mem hr
    · simp only [List.map_cons, List.mem_cons] at h
      have hs : s = d := h.resolve_right hr
      rw [putL_ne hr, putL_ne hr, hs, put_self, put_self]

theorem putL_comm {l m : List (Nat × List D)} {e : Env} (h : ∀ x ∈ l.map (·.1), x ∉ m.map (·.1)) : putL (putL e l) m = putL (putL e m) l := by
  funext s
  by_cases hl : s ∈ l.map (·.1)
  · rw [putL_ne (h s hl)]
    exact putL_mem hl
  · rw [putL_ne hl]
    by_cases hm : s ∈ m.map (·.1)
    · exact putL_mem hm
    · rw [putL_ne hm, putL_ne hm, putL_ne hl]

/-- What a statement does: it writes these cells, from whatever agrees on what it reads. -/
def Does (Φ : Ask) (p : PS) (e e' : Env) : Prop :=
  ∃ l : List (Nat × List D), (∀ x ∈ l.map (·.1), x ∈ p.wr) ∧ e' = putL e l ∧ ∀ e2 : Env, (∀ s ∈ p.rd, e2 s = e s) → PRel Φ p e2 (putL e2 l)

theorem Opd.get_eq {x : Opd} {e e2 : Env} (h : ∀ s ∈ x.rd, e2 s = e s) : x.get e2 = x.get e := by
  cases x with
  | t s => exact h s (List.mem_singleton.2 rfl)
  | c d => rfl

theorem idx_eq {o : Option Opd} {e e2 : Env} {n : Nat} (h : ∀ s ∈ rdO o, e2 s = e s) : idx e2 o n = idx e o n := by
  cases o with
  | none => rfl
  | some x => simp only [idx]; rw [Opd.get_eq h]

theorem litP_eq {e e2 : Env} : ∀ {ps : List (Nat × Opd)} {xs : List (List D)}, (∀ s ∈ rdP ps, e2 s = e s) → litP e2 xs ps = litP e xs ps
  | [], _, _ => rfl
  | (k, x) :: r, xs, h => by
    simp only [litP]
    rw [Opd.get_eq (fun s hs => h s (List.mem_append_left _ hs)), litP_eq (fun s hs => h s (List.mem_append_right _ hs))]

theorem bldP_eq {e e2 : Env} : ∀ {ps : List (Nat × Opd)} {c : List D}, (∀ s ∈ rdP ps, e2 s = e s) → bldP e2 c ps = bldP e c ps
  | [], _, _ => rfl
  | (k, x) :: r, c, h => by
    simp only [bldP]
    rw [Opd.get_eq (fun s hs => h s (List.mem_append_left _ hs)), bldP_eq (fun s hs => h s (List.mem_append_right _ hs))]

theorem rdL_eq {e e2 : Env} : ∀ {l : List Opd}, (∀ s ∈ rdL l, e2 s = e s) → l.map (·.get e2) = l.map (·.get e)
  | [], _ => rfl
  | x :: r, h => by
    simp only [List.map_cons]
    rw [Opd.get_eq (fun s hs => h s (List.mem_append_left _ hs)), rdL_eq (fun s hs => h s (List.mem_append_right _ hs))]

theorem rdF_eq {e e2 : Env} : ∀ {l : List (Bool × Opd)}, (∀ s ∈ rdF l, e2 s = e s) → (l.map fun p => (p.1, p.2.get e2)) = l.map fun p => (p.1, p.2.get e)
  | [], _ => rfl
  | (b, x) :: r, h => by
    simp only [List.map_cons]
    rw [Opd.get_eq (fun s hs => h s (List.mem_append_left _ hs)), rdF_eq (fun s hs => h s (List.mem_append_right _ hs))]

theorem one_put {Φ : Ask} {p : PS} {e e' : Env} {d : Nat} {c : List D} (hw : d ∈ p.wr) (he : e' = put e d c) (h : ∀ e2 : Env, (∀ s ∈ p.rd, e2 s = e s) → PRel Φ p e2 (put e2 d c)) : Does Φ p e e' :=
  ⟨[(d, c)], by simpa using hw, he, h⟩

/-- What a statement writes hangs on what it reads alone. -/
theorem does_of {Φ : Ask} : ∀ {p : PS} {e e' : Env}, PRel Φ p e e' → Does Φ p e e'
  | .nop, e, e', hp => by
    simp only [PRel, pstep, Option.some.injEq] at hp
    subst hp
    exact ⟨[], by simp, rfl, fun e2 _ => rfl⟩
  | .mv d x, e, e', hp => by
    have key : ∀ e2 : Env, (∀ t ∈ (PS.mv d x).rd, e2 t = e t) → ∃ vv, e' = put e d vv ∧ pstep (.mv d x) e2 = some (put e2 d vv) := by
      intro e2 h2
      have hx : Opd.get e2 x = Opd.get e x := Opd.get_eq (fun s hs => h2 s (by simp [PS.rd, hs]))
      simp only [PRel, pstep] at hp
      simp only [pstep, hx]
      clear h2
      revert hp
      first
        | ((repeat' split) <;> intro hp <;> first
            | (cases hp; done)
            | (simp only [Option.some.injEq] at hp
               exact ⟨_, hp.symm, rfl⟩))
        | (intro hp
           (repeat' (split at hp)) <;> first
            | (cases hp; done)
            | (simp only [Option.some.injEq] at hp
               refine ⟨_, hp.symm, ?_⟩
               simp [*]))
    obtain ⟨vv, hc, _⟩ := key e (fun _ _ => rfl)
    refine one_put (d := d) (c := vv) (by simp [PS.wr]) hc (fun e2 h2 => ?_)
    obtain ⟨c2, hc2, hp2⟩ := key e2 h2
    have : vv = c2 := by
      have := congrFun (hc.symm.trans hc2) d
      rwa [put_self, put_self] at this
    rw [this]
    exact hp2
  | .sub d s off n, e, e', hp => by
    have key : ∀ e2 : Env, (∀ t ∈ (PS.sub d s off n).rd, e2 t = e t) → ∃ vv, e' = put e d vv ∧ pstep (.sub d s off n) e2 = some (put e2 d vv) := by
      intro e2 h2
      have gs : e2 s = e s := h2 s (by simp [PS.rd])
      simp only [PRel, pstep] at hp
      simp only [pstep, gs]
      clear h2
      revert hp
      first
        | ((repeat' split) <;> intro hp <;> first
            | (cases hp; done)
            | (simp only [Option.some.injEq] at hp
               exact ⟨_, hp.symm, rfl⟩))
        | (intro hp
           (repeat' (split at hp)) <;> first
            | (cases hp; done)
            | (simp only [Option.some.injEq] at hp
               refine ⟨_, hp.symm, ?_⟩
               simp [*]))
    obtain ⟨vv, hc, _⟩ := key e (fun _ _ => rfl)
    refine one_put (d := d) (c := vv) (by simp [PS.wr]) hc (fun e2 h2 => ?_)
    obtain ⟨c2, hc2, hp2⟩ := key e2 h2
    have : vv = c2 := by
      have := congrFun (hc.symm.trans hc2) d
      rwa [put_self, put_self] at this
    rw [this]
    exact hp2
  | .bld d z ps, e, e', hp => by
    have key : ∀ e2 : Env, (∀ t ∈ (PS.bld d z ps).rd, e2 t = e t) → ∃ vv, e' = put e d vv ∧ pstep (.bld d z ps) e2 = some (put e2 d vv) := by
      intro e2 h2
      have hl : bldP e2 z ps = bldP e z ps := bldP_eq (fun s hs => h2 s (by simpa [PS.rd] using hs))
      simp only [PRel, pstep] at hp
      simp only [pstep, hl]
      clear h2
      revert hp
      first
        | ((repeat' split) <;> intro hp <;> first
            | (cases hp; done)
            | (simp only [Option.some.injEq] at hp
               exact ⟨_, hp.symm, rfl⟩))
        | (intro hp
           (repeat' (split at hp)) <;> first
            | (cases hp; done)
            | (simp only [Option.some.injEq] at hp
               refine ⟨_, hp.symm, ?_⟩
               simp [*]))
    obtain ⟨vv, hc, _⟩ := key e (fun _ _ => rfl)
    refine one_put (d := d) (c := vv) (by simp [PS.wr]) hc (fun e2 h2 => ?_)
    obtain ⟨c2, hc2, hp2⟩ := key e2 h2
    have : vv = c2 := by
      have := congrFun (hc.symm.trans hc2) d
      rwa [put_self, put_self] at this
    rw [this]
    exact hp2
  | .lit d n z ps, e, e', hp => by
    have key : ∀ e2 : Env, (∀ t ∈ (PS.lit d n z ps).rd, e2 t = e t) → ∃ vv, e' = put e d vv ∧ pstep (.lit d n z ps) e2 = some (put e2 d vv) := by
      intro e2 h2
      have hl : litP e2 (List.replicate n z) ps = litP e (List.replicate n z) ps := litP_eq (fun s hs => h2 s (by simpa [PS.rd] using hs))
      simp only [PRel, pstep] at hp
      simp only [pstep, hl]
      clear h2
      revert hp
      first
        | ((repeat' split) <;> intro hp <;> first
            | (cases hp; done)
            | (simp only [Option.some.injEq] at hp
               exact ⟨_, hp.symm, rfl⟩))
        | (intro hp
           (repeat' (split at hp)) <;> first
            | (cases hp; done)
            | (simp only [Option.some.injEq] at hp
               refine ⟨_, hp.symm, ?_⟩
               simp [*]))
    obtain ⟨vv, hc, _⟩ := key e (fun _ _ => rfl)
    refine one_put (d := d) (c := vv) (by simp [PS.wr]) hc (fun e2 h2 => ?_)
    obtain ⟨c2, hc2, hp2⟩ := key e2 h2
    have : vv = c2 := by
      have := congrFun (hc.symm.trans hc2) d
      rwa [put_self, put_self] at this
    rw [this]
    exact hp2
  | .mk d z n c, e, e', hp => by
    have key : ∀ e2 : Env, (∀ t ∈ (PS.mk d z n c).rd, e2 t = e t) → ∃ vv, e' = put e d vv ∧ pstep (.mk d z n c) e2 = some (put e2 d vv) := by
      intro e2 h2
      have hn : Opd.get e2 n = Opd.get e n := Opd.get_eq (fun s hs => h2 s (by simp [PS.rd, hs]))
      have hc : Opd.get e2 c = Opd.get e c := Opd.get_eq (fun s hs => h2 s (by simp [PS.rd, hs]))
      simp only [PRel, pstep] at hp
      simp only [pstep, hn, hc]
      clear h2
      revert hp
      first
        | ((repeat' split) <;> intro hp <;> first
            | (cases hp; done)
            | (simp only [Option.some.injEq] at hp
               exact ⟨_, hp.symm, rfl⟩))
        | (intro hp
           (repeat' (split at hp)) <;> first
            | (cases hp; done)
            | (simp only [Option.some.injEq] at hp
               refine ⟨_, hp.symm, ?_⟩
               simp [*]))
    obtain ⟨vv, hc, _⟩ := key e (fun _ _ => rfl)
    refine one_put (d := d) (c := vv) (by simp [PS.wr]) hc (fun e2 h2 => ?_)
    obtain ⟨c2, hc2, hp2⟩ := key e2 h2
    have : vv = c2 := by
      have := congrFun (hc.symm.trans hc2) d
      rwa [put_self, put_self] at this
    rw [this]
    exact hp2
  | .st b off x, e, e', hp => by
    have key : ∀ e2 : Env, (∀ t ∈ (PS.st b off x).rd, e2 t = e t) → ∃ vv, e' = put e b vv ∧ pstep (.st b off x) e2 = some (put e2 b vv) := by
      intro e2 h2
      have hx : Opd.get e2 x = Opd.get e x := Opd.get_eq (fun s hs => h2 s (by simp [PS.rd, hs]))
      have gb : e2 b = e b := h2 b (by simp [PS.rd])
      simp only [PRel, pstep] at hp
      simp only [pstep, hx, gb]
      clear h2
      revert hp
      first
        | ((repeat' split) <;> intro hp <;> first
            | (cases hp; done)
            | (simp only [Option.some.injEq] at hp
               exact ⟨_, hp.symm, rfl⟩))
        | (intro hp
           (repeat' (split at hp)) <;> first
            | (cases hp; done)
            | (simp only [Option.some.injEq] at hp
               refine ⟨_, hp.symm, ?_⟩
               simp [*]))
    obtain ⟨vv, hc, _⟩ := key e (fun _ _ => rfl)
    refine one_put (d := b) (c := vv) (by simp [PS.wr]) hc (fun e2 h2 => ?_)
    obtain ⟨c2, hc2, hp2⟩ := key e2 h2
    have : vv = c2 := by
      have := congrFun (hc.symm.trans hc2) b
      rwa [put_self, put_self] at this
    rw [this]
    exact hp2
  | .bin d op x y, e, e', hp => by
    have key : ∀ e2 : Env, (∀ t ∈ (PS.bin d op x y).rd, e2 t = e t) → ∃ vv, e' = put e d vv ∧ pstep (.bin d op x y) e2 = some (put e2 d vv) := by
      intro e2 h2
      have hx : Opd.get e2 x = Opd.get e x := Opd.get_eq (fun s hs => h2 s (by simp [PS.rd, hs]))
      have hy : Opd.get e2 y = Opd.get e y := Opd.get_eq (fun s hs => h2 s (by simp [PS.rd, hs]))
      simp only [PRel, pstep] at hp
      simp only [pstep, hx, hy]
      clear h2
      revert hp
      cases two (binV op) (Opd.get e x) (Opd.get e y) with
      | none => intro hp; cases hp
      | some c =>
        intro hp
        simp only [Option.map_some, Option.some.injEq] at hp
        exact ⟨c, hp.symm, rfl⟩
    obtain ⟨vv, hc, _⟩ := key e (fun _ _ => rfl)
    refine one_put (d := d) (c := vv) (by simp [PS.wr]) hc (fun e2 h2 => ?_)
    obtain ⟨c2, hc2, hp2⟩ := key e2 h2
    have : vv = c2 := by
      have := congrFun (hc.symm.trans hc2) d
      rwa [put_self, put_self] at this
    rw [this]
    exact hp2
  | .un d op x, e, e', hp => by
    have key : ∀ e2 : Env, (∀ t ∈ (PS.un d op x).rd, e2 t = e t) → ∃ vv, e' = put e d vv ∧ pstep (.un d op x) e2 = some (put e2 d vv) := by
      intro e2 h2
      have hx : Opd.get e2 x = Opd.get e x := Opd.get_eq (fun s hs => h2 s (by simp [PS.rd, hs]))
      simp only [PRel, pstep] at hp
      simp only [pstep, hx]
      clear h2
      revert hp
      cases one (unV op) (Opd.get e x) with
      | none => intro hp; cases hp
      | some c =>
        intro hp
        simp only [Option.map_some, Option.some.injEq] at hp
        exact ⟨c, hp.symm, rfl⟩
    obtain ⟨vv, hc, _⟩ := key e (fun _ _ => rfl)
    refine one_put (d := d) (c := vv) (by simp [PS.wr]) hc (fun e2 h2 => ?_)
    obtain ⟨c2, hc2, hp2⟩ := key e2 h2
    have : vv = c2 := by
      have := congrFun (hc.symm.trans hc2) d
      rwa [put_self, put_self] at this
    rw [this]
    exact hp2
  | .beq d neg x y, e, e', hp => by
    have key : ∀ e2 : Env, (∀ t ∈ (PS.beq d neg x y).rd, e2 t = e t) → ∃ vv, e' = put e d vv ∧ pstep (.beq d neg x y) e2 = some (put e2 d vv) := by
      intro e2 h2
      have hx : Opd.get e2 x = Opd.get e x := Opd.get_eq (fun s hs => h2 s (by simp [PS.rd, hs]))
      have hy : Opd.get e2 y = Opd.get e y := Opd.get_eq (fun s hs => h2 s (by simp [PS.rd, hs]))
      simp only [PRel, pstep] at hp
      simp only [pstep, hx, hy]
      clear h2
      revert hp
      first
        | ((repeat' split) <;> intro hp <;> first
            | (cases hp; done)
            | (simp only [Option.some.injEq] at hp
               exact ⟨_, hp.symm, rfl⟩))
        | (intro hp
           (repeat' (split at hp)) <;> first
            | (cases hp; done)
            | (simp only [Option.some.injEq] at hp
               refine ⟨_, hp.symm, ?_⟩
               simp [*]))
    obtain ⟨vv, hc, _⟩ := key e (fun _ _ => rfl)
    refine one_put (d := d) (c := vv) (by simp [PS.wr]) hc (fun e2 h2 => ?_)
    obtain ⟨c2, hc2, hp2⟩ := key e2 h2
    have : vv = c2 := by
      have := congrFun (hc.symm.trans hc2) d
      rwa [put_self, put_self] at this
    rw [this]
    exact hp2
  | .eqs d neg zs x y, e, e', hp => by
    have key : ∀ e2 : Env, (∀ t ∈ (PS.eqs d neg zs x y).rd, e2 t = e t) → ∃ vv, e' = put e d vv ∧ pstep (.eqs d neg zs x y) e2 = some (put e2 d vv) := by
      intro e2 h2
      have hx : Opd.get e2 x = Opd.get e x := Opd.get_eq (fun s hs => h2 s (by simp [PS.rd, hs]))
      have hy : Opd.get e2 y = Opd.get e y := Opd.get_eq (fun s hs => h2 s (by simp [PS.rd, hs]))
      simp only [PRel, pstep] at hp
      simp only [pstep, hx, hy]
      clear h2
      revert hp
      first
        | ((repeat' split) <;> intro hp <;> first
            | (cases hp; done)
            | (simp only [Option.some.injEq] at hp
               exact ⟨_, hp.symm, rfl⟩))
        | (intro hp
           (repeat' (split at hp)) <;> first
            | (cases hp; done)
            | (simp only [Option.some.injEq] at hp
               refine ⟨_, hp.symm, ?_⟩
               simp [*]))
    obtain ⟨vv, hc, _⟩ := key e (fun _ _ => rfl)
    refine one_put (d := d) (c := vv) (by simp [PS.wr]) hc (fun e2 h2 => ?_)
    obtain ⟨c2, hc2, hp2⟩ := key e2 h2
    have : vv = c2 := by
      have := congrFun (hc.symm.trans hc2) d
      rwa [put_self, put_self] at this
    rw [this]
    exact hp2
  | .pick d c a b, e, e', hp => by
    have key : ∀ e2 : Env, (∀ t ∈ (PS.pick d c a b).rd, e2 t = e t) → ∃ vv, e' = put e d vv ∧ pstep (.pick d c a b) e2 = some (put e2 d vv) := by
      intro e2 h2
      have hc : Opd.get e2 c = Opd.get e c := Opd.get_eq (fun s hs => h2 s (by simp [PS.rd, hs]))
      have ha : Opd.get e2 a = Opd.get e a := Opd.get_eq (fun s hs => h2 s (by simp [PS.rd, hs]))
      have hb : Opd.get e2 b = Opd.get e b := Opd.get_eq (fun s hs => h2 s (by simp [PS.rd, hs]))
      simp only [PRel, pstep] at hp
      simp only [pstep, hc, ha, hb]
      clear h2
      revert hp
      first
        | ((repeat' split) <;> intro hp <;> first
            | (cases hp; done)
            | (simp only [Option.some.injEq] at hp
               exact ⟨_, hp.symm, rfl⟩))
        | (intro hp
           (repeat' (split at hp)) <;> first
            | (cases hp; done)
            | (simp only [Option.some.injEq] at hp
               refine ⟨_, hp.symm, ?_⟩
               simp [*]))
    obtain ⟨vv, hc, _⟩ := key e (fun _ _ => rfl)
    refine one_put (d := d) (c := vv) (by simp [PS.wr]) hc (fun e2 h2 => ?_)
    obtain ⟨c2, hc2, hp2⟩ := key e2 h2
    have : vv = c2 := by
      have := congrFun (hc.symm.trans hc2) d
      rwa [put_self, put_self] at this
    rw [this]
    exact hp2
  | .elp d l i sz, e, e', hp => by
    have key : ∀ e2 : Env, (∀ t ∈ (PS.elp d l i sz).rd, e2 t = e t) → ∃ vv, e' = put e d vv ∧ pstep (.elp d l i sz) e2 = some (put e2 d vv) := by
      intro e2 h2
      have hl : Opd.get e2 l = Opd.get e l := Opd.get_eq (fun s hs => h2 s (by simp [PS.rd, hs]))
      have hi : Opd.get e2 i = Opd.get e i := Opd.get_eq (fun s hs => h2 s (by simp [PS.rd, hs]))
      simp only [PRel, pstep] at hp
      simp only [pstep, hl, hi]
      clear h2
      revert hp
      first
        | ((repeat' split) <;> intro hp <;> first
            | (cases hp; done)
            | (simp only [Option.some.injEq] at hp
               exact ⟨_, hp.symm, rfl⟩))
        | (intro hp
           (repeat' (split at hp)) <;> first
            | (cases hp; done)
            | (simp only [Option.some.injEq] at hp
               refine ⟨_, hp.symm, ?_⟩
               simp [*]))
    obtain ⟨vv, hc, _⟩ := key e (fun _ _ => rfl)
    refine one_put (d := d) (c := vv) (by simp [PS.wr]) hc (fun e2 h2 => ?_)
    obtain ⟨c2, hc2, hp2⟩ := key e2 h2
    have : vv = c2 := by
      have := congrFun (hc.symm.trans hc2) d
      rwa [put_self, put_self] at this
    rw [this]
    exact hp2
  | .eld d s off zs, e, e', hp => by
    have key : ∀ e2 : Env, (∀ t ∈ (PS.eld d s off zs).rd, e2 t = e t) → ∃ vv, e' = put e d vv ∧ pstep (.eld d s off zs) e2 = some (put e2 d vv) := by
      intro e2 h2
      have gs : e2 s = e s := h2 s (by simp [PS.rd])
      simp only [PRel, pstep] at hp
      simp only [pstep, gs]
      clear h2
      revert hp
      first
        | ((repeat' split) <;> intro hp <;> first
            | (cases hp; done)
            | (simp only [Option.some.injEq] at hp
               exact ⟨_, hp.symm, rfl⟩))
        | (intro hp
           (repeat' (split at hp)) <;> first
            | (cases hp; done)
            | (simp only [Option.some.injEq] at hp
               refine ⟨_, hp.symm, ?_⟩
               simp [*]))
    obtain ⟨vv, hc, _⟩ := key e (fun _ _ => rfl)
    refine one_put (d := d) (c := vv) (by simp [PS.wr]) hc (fun e2 h2 => ?_)
    obtain ⟨c2, hc2, hp2⟩ := key e2 h2
    have : vv = c2 := by
      have := congrFun (hc.symm.trans hc2) d
      rwa [put_self, put_self] at this
    rw [this]
    exact hp2
  | .els s off h i x, e, e', hp => by
    have key : ∀ e2 : Env, (∀ t ∈ (PS.els s off h i x).rd, e2 t = e t) → ∃ vv, e' = put e h vv ∧ pstep (.els s off h i x) e2 = some (put e2 h vv) := by
      intro e2 h2
      have hx : Opd.get e2 x = Opd.get e x := Opd.get_eq (fun s hs => h2 s (by simp [PS.rd, hs]))
      have gs : e2 s = e s := h2 s (by simp [PS.rd])
      have gh : e2 h = e h := h2 h (by simp [PS.rd])
      simp only [PRel, pstep] at hp
      simp only [pstep, hx, gs, gh]
      clear h2
      revert hp
      first
        | ((repeat' split) <;> intro hp <;> first
            | (cases hp; done)
            | (simp only [Option.some.injEq] at hp
               exact ⟨_, hp.symm, rfl⟩))
        | (intro hp
           (repeat' (split at hp)) <;> first
            | (cases hp; done)
            | (simp only [Option.some.injEq] at hp
               refine ⟨_, hp.symm, ?_⟩
               simp [*]))
    obtain ⟨vv, hc, _⟩ := key e (fun _ _ => rfl)
    refine one_put (d := h) (c := vv) (by simp [PS.wr]) hc (fun e2 h2 => ?_)
    obtain ⟨c2, hc2, hp2⟩ := key e2 h2
    have : vv = c2 := by
      have := congrFun (hc.symm.trans hc2) h
      rwa [put_self, put_self] at this
    rw [this]
    exact hp2
  | .bxp d i len, e, e', hp => by
    have key : ∀ e2 : Env, (∀ t ∈ (PS.bxp d i len).rd, e2 t = e t) → ∃ vv, e' = put e d vv ∧ pstep (.bxp d i len) e2 = some (put e2 d vv) := by
      intro e2 h2
      have hi : Opd.get e2 i = Opd.get e i := Opd.get_eq (fun s hs => h2 s (by simp [PS.rd, hs]))
      simp only [PRel, pstep] at hp
      simp only [pstep, hi]
      clear h2
      revert hp
      first
        | ((repeat' split) <;> intro hp <;> first
            | (cases hp; done)
            | (simp only [Option.some.injEq] at hp
               exact ⟨_, hp.symm, rfl⟩))
        | (intro hp
           (repeat' (split at hp)) <;> first
            | (cases hp; done)
            | (simp only [Option.some.injEq] at hp
               refine ⟨_, hp.symm, ?_⟩
               simp [*]))
    obtain ⟨vv, hc, _⟩ := key e (fun _ _ => rfl)
    refine one_put (d := d) (c := vv) (by simp [PS.wr]) hc (fun e2 h2 => ?_)
    obtain ⟨c2, hc2, hp2⟩ := key e2 h2
    have : vv = c2 := by
      have := congrFun (hc.symm.trans hc2) d
      rwa [put_self, put_self] at this
    rw [this]
    exact hp2
  | .bxl d s b es off n, e, e', hp => by
    have key : ∀ e2 : Env, (∀ t ∈ (PS.bxl d s b es off n).rd, e2 t = e t) → ∃ vv, e' = put e d vv ∧ pstep (.bxl d s b es off n) e2 = some (put e2 d vv) := by
      intro e2 h2
      have gs : e2 s = e s := h2 s (by simp [PS.rd])
      have gb : e2 b = e b := h2 b (by simp [PS.rd])
      simp only [PRel, pstep] at hp
      simp only [pstep, gs, gb]
      clear h2
      revert hp
      first
        | ((repeat' split) <;> intro hp <;> first
            | (cases hp; done)
            | (simp only [Option.some.injEq] at hp
               exact ⟨_, hp.symm, rfl⟩))
        | (intro hp
           (repeat' (split at hp)) <;> first
            | (cases hp; done)
            | (simp only [Option.some.injEq] at hp
               refine ⟨_, hp.symm, ?_⟩
               simp [*]))
    obtain ⟨vv, hc, _⟩ := key e (fun _ _ => rfl)
    refine one_put (d := d) (c := vv) (by simp [PS.wr]) hc (fun e2 h2 => ?_)
    obtain ⟨c2, hc2, hp2⟩ := key e2 h2
    have : vv = c2 := by
      have := congrFun (hc.symm.trans hc2) d
      rwa [put_self, put_self] at this
    rw [this]
    exact hp2
  | .bxs s b es off x, e, e', hp => by
    have key : ∀ e2 : Env, (∀ t ∈ (PS.bxs s b es off x).rd, e2 t = e t) → ∃ vv, e' = put e b vv ∧ pstep (.bxs s b es off x) e2 = some (put e2 b vv) := by
      intro e2 h2
      have hx : Opd.get e2 x = Opd.get e x := Opd.get_eq (fun s hs => h2 s (by simp [PS.rd, hs]))
      have gs : e2 s = e s := h2 s (by simp [PS.rd])
      have gb : e2 b = e b := h2 b (by simp [PS.rd])
      simp only [PRel, pstep] at hp
      simp only [pstep, hx, gs, gb]
      clear h2
      revert hp
      first
        | ((repeat' split) <;> intro hp <;> first
            | (cases hp; done)
            | (simp only [Option.some.injEq] at hp
               exact ⟨_, hp.symm, rfl⟩))
        | (intro hp
           (repeat' (split at hp)) <;> first
            | (cases hp; done)
            | (simp only [Option.some.injEq] at hp
               refine ⟨_, hp.symm, ?_⟩
               simp [*]))
    obtain ⟨vv, hc, _⟩ := key e (fun _ _ => rfl)
    refine one_put (d := b) (c := vv) (by simp [PS.wr]) hc (fun e2 h2 => ?_)
    obtain ⟨c2, hc2, hp2⟩ := key e2 h2
    have : vv = c2 := by
      have := congrFun (hc.symm.trans hc2) b
      rwa [put_self, put_self] at this
    rw [this]
    exact hp2
  | .len d x, e, e', hp => by
    have key : ∀ e2 : Env, (∀ t ∈ (PS.len d x).rd, e2 t = e t) → ∃ vv, e' = put e d vv ∧ pstep (.len d x) e2 = some (put e2 d vv) := by
      intro e2 h2
      have hx : Opd.get e2 x = Opd.get e x := Opd.get_eq (fun s hs => h2 s (by simp [PS.rd, hs]))
      simp only [PRel, pstep] at hp
      simp only [pstep, hx]
      clear h2
      revert hp
      first
        | ((repeat' split) <;> intro hp <;> first
            | (cases hp; done)
            | (simp only [Option.some.injEq] at hp
               exact ⟨_, hp.symm, rfl⟩))
        | (intro hp
           (repeat' (split at hp)) <;> first
            | (cases hp; done)
            | (simp only [Option.some.injEq] at hp
               refine ⟨_, hp.symm, ?_⟩
               simp [*]))
    obtain ⟨vv, hc, _⟩ := key e (fun _ _ => rfl)
    refine one_put (d := d) (c := vv) (by simp [PS.wr]) hc (fun e2 h2 => ?_)
    obtain ⟨c2, hc2, hp2⟩ := key e2 h2
    have : vv = c2 := by
      have := congrFun (hc.symm.trans hc2) d
      rwa [put_self, put_self] at this
    rw [this]
    exact hp2
  | .slen d x, e, e', hp => by
    have key : ∀ e2 : Env, (∀ t ∈ (PS.slen d x).rd, e2 t = e t) → ∃ vv, e' = put e d vv ∧ pstep (.slen d x) e2 = some (put e2 d vv) := by
      intro e2 h2
      have hx : Opd.get e2 x = Opd.get e x := Opd.get_eq (fun s hs => h2 s (by simp [PS.rd, hs]))
      simp only [PRel, pstep] at hp
      simp only [pstep, hx]
      clear h2
      revert hp
      first
        | ((repeat' split) <;> intro hp <;> first
            | (cases hp; done)
            | (simp only [Option.some.injEq] at hp
               exact ⟨_, hp.symm, rfl⟩))
        | (intro hp
           (repeat' (split at hp)) <;> first
            | (cases hp; done)
            | (simp only [Option.some.injEq] at hp
               refine ⟨_, hp.symm, ?_⟩
               simp [*]))
    obtain ⟨vv, hc, _⟩ := key e (fun _ _ => rfl)
    refine one_put (d := d) (c := vv) (by simp [PS.wr]) hc (fun e2 h2 => ?_)
    obtain ⟨c2, hc2, hp2⟩ := key e2 h2
    have : vv = c2 := by
      have := congrFun (hc.symm.trans hc2) d
      rwa [put_self, put_self] at this
    rw [this]
    exact hp2
  | .sidx d x i, e, e', hp => by
    have key : ∀ e2 : Env, (∀ t ∈ (PS.sidx d x i).rd, e2 t = e t) → ∃ vv, e' = put e d vv ∧ pstep (.sidx d x i) e2 = some (put e2 d vv) := by
      intro e2 h2
      have hx : Opd.get e2 x = Opd.get e x := Opd.get_eq (fun s hs => h2 s (by simp [PS.rd, hs]))
      have hi : Opd.get e2 i = Opd.get e i := Opd.get_eq (fun s hs => h2 s (by simp [PS.rd, hs]))
      simp only [PRel, pstep] at hp
      simp only [pstep, hx, hi]
      clear h2
      revert hp
      first
        | ((repeat' split) <;> intro hp <;> first
            | (cases hp; done)
            | (simp only [Option.some.injEq] at hp
               exact ⟨_, hp.symm, rfl⟩))
        | (intro hp
           (repeat' (split at hp)) <;> first
            | (cases hp; done)
            | (simp only [Option.some.injEq] at hp
               refine ⟨_, hp.symm, ?_⟩
               simp [*]))
    obtain ⟨vv, hc, _⟩ := key e (fun _ _ => rfl)
    refine one_put (d := d) (c := vv) (by simp [PS.wr]) hc (fun e2 h2 => ?_)
    obtain ⟨c2, hc2, hp2⟩ := key e2 h2
    have : vv = c2 := by
      have := congrFun (hc.symm.trans hc2) d
      rwa [put_self, put_self] at this
    rw [this]
    exact hp2
  | .ssl d x lo hi, e, e', hp => by
    have key : ∀ e2 : Env, (∀ t ∈ (PS.ssl d x lo hi).rd, e2 t = e t) → ∃ vv, e' = put e d vv ∧ pstep (.ssl d x lo hi) e2 = some (put e2 d vv) := by
      intro e2 h2
      have hx : Opd.get e2 x = Opd.get e x := Opd.get_eq (fun s hs => h2 s (by simp [PS.rd, hs]))
      have ilo : ∀ n, idx e2 lo n = idx e lo n := fun n => idx_eq (fun s hs => h2 s (by simp [PS.rd, hs]))
      have ihi : ∀ n, idx e2 hi n = idx e hi n := fun n => idx_eq (fun s hs => h2 s (by simp [PS.rd, hs]))
      simp only [PRel, pstep] at hp
      simp only [pstep, hx, ilo, ihi]
      clear h2
      revert hp
      first
        | ((repeat' split) <;> intro hp <;> first
            | (cases hp; done)
            | (simp only [Option.some.injEq] at hp
               exact ⟨_, hp.symm, rfl⟩))
        | (intro hp
           (repeat' (split at hp)) <;> first
            | (cases hp; done)
            | (simp only [Option.some.injEq] at hp
               refine ⟨_, hp.symm, ?_⟩
               simp [*]))
    obtain ⟨vv, hc, _⟩ := key e (fun _ _ => rfl)
    refine one_put (d := d) (c := vv) (by simp [PS.wr]) hc (fun e2 h2 => ?_)
    obtain ⟨c2, hc2, hp2⟩ := key e2 h2
    have : vv = c2 := by
      have := congrFun (hc.symm.trans hc2) d
      rwa [put_self, put_self] at this
    rw [this]
    exact hp2
  | .lsl d sz x lo hi mx, e, e', hp => by
    have key : ∀ e2 : Env, (∀ t ∈ (PS.lsl d sz x lo hi mx).rd, e2 t = e t) → ∃ vv, e' = put e d vv ∧ pstep (.lsl d sz x lo hi mx) e2 = some (put e2 d vv) := by
      intro e2 h2
      have hx : Opd.get e2 x = Opd.get e x := Opd.get_eq (fun s hs => h2 s (by simp [PS.rd, hs]))
      have ilo : ∀ n, idx e2 lo n = idx e lo n := fun n => idx_eq (fun s hs => h2 s (by simp [PS.rd, hs]))
      have ihi : ∀ n, idx e2 hi n = idx e hi n := fun n => idx_eq (fun s hs => h2 s (by simp [PS.rd, hs]))
      have imx : ∀ n, idx e2 mx n = idx e mx n := fun n => idx_eq (fun s hs => h2 s (by simp [PS.rd, hs]))
      simp only [PRel, pstep] at hp
      simp only [pstep, hx, ilo, ihi, imx]
      clear h2
      revert hp
      first
        | ((repeat' split) <;> intro hp <;> first
            | (cases hp; done)
            | (simp only [Option.some.injEq] at hp
               exact ⟨_, hp.symm, rfl⟩))
        | (intro hp
           (repeat' (split at hp)) <;> first
            | (cases hp; done)
            | (simp only [Option.some.injEq] at hp
               refine ⟨_, hp.symm, ?_⟩
               simp [*]))
    obtain ⟨vv, hc, _⟩ := key e (fun _ _ => rfl)
    refine one_put (d := d) (c := vv) (by simp [PS.wr]) hc (fun e2 h2 => ?_)
    obtain ⟨c2, hc2, hp2⟩ := key e2 h2
    have : vv = c2 := by
      have := congrFun (hc.symm.trans hc2) d
      rwa [put_self, put_self] at this
    rw [this]
    exact hp2
  | .app d sz sc x y, e, e', hp => by
    have key : ∀ e2 : Env, (∀ t ∈ (PS.app d sz sc x y).rd, e2 t = e t) → ∃ vv, e' = put e d vv ∧ pstep (.app d sz sc x y) e2 = some (put e2 d vv) := by
      intro e2 h2
      have hx : Opd.get e2 x = Opd.get e x := Opd.get_eq (fun s hs => h2 s (by simp [PS.rd, hs]))
      have hy : Opd.get e2 y = Opd.get e y := Opd.get_eq (fun s hs => h2 s (by simp [PS.rd, hs]))
      simp only [PRel, pstep] at hp
      simp only [pstep, hx, hy]
      clear h2
      revert hp
      first
        | ((repeat' split) <;> intro hp <;> first
            | (cases hp; done)
            | (simp only [Option.some.injEq] at hp
               exact ⟨_, hp.symm, rfl⟩))
        | (intro hp
           (repeat' (split at hp)) <;> first
            | (cases hp; done)
            | (simp only [Option.some.injEq] at hp
               refine ⟨_, hp.symm, ?_⟩
               simp [*]))
    obtain ⟨vv, hc, _⟩ := key e (fun _ _ => rfl)
    refine one_put (d := d) (c := vv) (by simp [PS.wr]) hc (fun e2 h2 => ?_)
    obtain ⟨c2, hc2, hp2⟩ := key e2 h2
    have : vv = c2 := by
      have := congrFun (hc.symm.trans hc2) d
      rwa [put_self, put_self] at this
    rw [this]
    exact hp2
  | .cvt d k x, e, e', hp => by
    have key : ∀ e2 : Env, (∀ t ∈ (PS.cvt d k x).rd, e2 t = e t) → ∃ vv, e' = put e d vv ∧ pstep (.cvt d k x) e2 = some (put e2 d vv) := by
      intro e2 h2
      have hx : Opd.get e2 x = Opd.get e x := Opd.get_eq (fun s hs => h2 s (by simp [PS.rd, hs]))
      simp only [PRel, pstep] at hp
      simp only [pstep, hx]
      clear h2
      revert hp
      first
        | ((repeat' split) <;> intro hp <;> first
            | (cases hp; done)
            | (simp only [Option.some.injEq] at hp
               exact ⟨_, hp.symm, rfl⟩))
        | (intro hp
           (repeat' (split at hp)) <;> first
            | (cases hp; done)
            | (simp only [Option.some.injEq] at hp
               refine ⟨_, hp.symm, ?_⟩
               simp [*]))
    obtain ⟨vv, hc, _⟩ := key e (fun _ _ => rfl)
    refine one_put (d := d) (c := vv) (by simp [PS.wr]) hc (fun e2 h2 => ?_)
    obtain ⟨c2, hc2, hp2⟩ := key e2 h2
    have : vv = c2 := by
      have := congrFun (hc.symm.trans hc2) d
      rwa [put_self, put_self] at this
    rw [this]
    exact hp2
  | .s2b d x, e, e', hp => by
    have key : ∀ e2 : Env, (∀ t ∈ (PS.s2b d x).rd, e2 t = e t) → ∃ vv, e' = put e d vv ∧ pstep (.s2b d x) e2 = some (put e2 d vv) := by
      intro e2 h2
      have hx : Opd.get e2 x = Opd.get e x := Opd.get_eq (fun s hs => h2 s (by simp [PS.rd, hs]))
      simp only [PRel, pstep] at hp
      simp only [pstep, hx]
      clear h2
      revert hp
      first
        | ((repeat' split) <;> intro hp <;> first
            | (cases hp; done)
            | (simp only [Option.some.injEq] at hp
               exact ⟨_, hp.symm, rfl⟩))
        | (intro hp
           (repeat' (split at hp)) <;> first
            | (cases hp; done)
            | (simp only [Option.some.injEq] at hp
               refine ⟨_, hp.symm, ?_⟩
               simp [*]))
    obtain ⟨vv, hc, _⟩ := key e (fun _ _ => rfl)
    refine one_put (d := d) (c := vv) (by simp [PS.wr]) hc (fun e2 h2 => ?_)
    obtain ⟨c2, hc2, hp2⟩ := key e2 h2
    have : vv = c2 := by
      have := congrFun (hc.symm.trans hc2) d
      rwa [put_self, put_self] at this
    rw [this]
    exact hp2
  | .b2s d x, e, e', hp => by
    have key : ∀ e2 : Env, (∀ t ∈ (PS.b2s d x).rd, e2 t = e t) → ∃ vv, e' = put e d vv ∧ pstep (.b2s d x) e2 = some (put e2 d vv) := by
      intro e2 h2
      have hx : Opd.get e2 x = Opd.get e x := Opd.get_eq (fun s hs => h2 s (by simp [PS.rd, hs]))
      simp only [PRel, pstep] at hp
      simp only [pstep, hx]
      clear h2
      revert hp
      first
        | ((repeat' split) <;> intro hp <;> first
            | (cases hp; done)
            | (simp only [Option.some.injEq] at hp
               exact ⟨_, hp.symm, rfl⟩))
        | (intro hp
           (repeat' (split at hp)) <;> first
            | (cases hp; done)
            | (simp only [Option.some.injEq] at hp
               refine ⟨_, hp.symm, ?_⟩
               simp [*]))
    obtain ⟨vv, hc, _⟩ := key e (fun _ _ => rfl)
    refine one_put (d := d) (c := vv) (by simp [PS.wr]) hc (fun e2 h2 => ?_)
    obtain ⟨c2, hc2, hp2⟩ := key e2 h2
    have : vv = c2 := by
      have := congrFun (hc.symm.trans hc2) d
      rwa [put_self, put_self] at this
    rw [this]
    exact hp2
  | .ext d s off n, e, e', hp => by
    have key : ∀ e2 : Env, (∀ t ∈ (PS.ext d s off n).rd, e2 t = e t) → ∃ vv, e' = put e d vv ∧ pstep (.ext d s off n) e2 = some (put e2 d vv) := by
      intro e2 h2
      have gs : e2 s = e s := h2 s (by simp [PS.rd])
      simp only [PRel, pstep] at hp
      simp only [pstep, gs]
      clear h2
      revert hp
      first
        | ((repeat' split) <;> intro hp <;> first
            | (cases hp; done)
            | (simp only [Option.some.injEq] at hp
               exact ⟨_, hp.symm, rfl⟩))
        | (intro hp
           (repeat' (split at hp)) <;> first
            | (cases hp; done)
            | (simp only [Option.some.injEq] at hp
               refine ⟨_, hp.symm, ?_⟩
               simp [*]))
    obtain ⟨vv, hc, _⟩ := key e (fun _ _ => rfl)
    refine one_put (d := d) (c := vv) (by simp [PS.wr]) hc (fun e2 h2 => ?_)
    obtain ⟨c2, hc2, hp2⟩ := key e2 h2
    have : vv = c2 := by
      have := congrFun (hc.symm.trans hc2) d
      rwa [put_self, put_self] at this
    rw [this]
    exact hp2
  | .min d x y, e, e', hp => by
    have key : ∀ e2 : Env, (∀ t ∈ (PS.min d x y).rd, e2 t = e t) → ∃ vv, e' = put e d vv ∧ pstep (.min d x y) e2 = some (put e2 d vv) := by
      intro e2 h2
      have hx : Opd.get e2 x = Opd.get e x := Opd.get_eq (fun s hs => h2 s (by simp [PS.rd, hs]))
      have hy : Opd.get e2 y = Opd.get e y := Opd.get_eq (fun s hs => h2 s (by simp [PS.rd, hs]))
      simp only [PRel, pstep] at hp
      simp only [pstep, hx, hy]
      clear h2
      revert hp
      first
        | ((repeat' split) <;> intro hp <;> first
            | (cases hp; done)
            | (simp only [Option.some.injEq] at hp
               exact ⟨_, hp.symm, rfl⟩))
        | (intro hp
           (repeat' (split at hp)) <;> first
            | (cases hp; done)
            | (simp only [Option.some.injEq] at hp
               refine ⟨_, hp.symm, ?_⟩
               simp [*]))
    obtain ⟨vv, hc, _⟩ := key e (fun _ _ => rfl)
    refine one_put (d := d) (c := vv) (by simp [PS.wr]) hc (fun e2 h2 => ?_)
    obtain ⟨c2, hc2, hp2⟩ := key e2 h2
    have : vv = c2 := by
      have := congrFun (hc.symm.trans hc2) d
      rwa [put_self, put_self] at this
    rw [this]
    exact hp2
  | .i2s d x, e, e', hp => by
    have key : ∀ e2 : Env, (∀ t ∈ (PS.i2s d x).rd, e2 t = e t) → ∃ vv, e' = put e d vv ∧ pstep (.i2s d x) e2 = some (put e2 d vv) := by
      intro e2 h2
      have hx : Opd.get e2 x = Opd.get e x := Opd.get_eq (fun s hs => h2 s (by simp [PS.rd, hs]))
      simp only [PRel, pstep] at hp
      simp only [pstep, hx]
      clear h2
      revert hp
      first
        | ((repeat' split) <;> intro hp <;> first
            | (cases hp; done)
            | (simp only [Option.some.injEq] at hp
               exact ⟨_, hp.symm, rfl⟩))
        | (intro hp
           (repeat' (split at hp)) <;> first
            | (cases hp; done)
            | (simp only [Option.some.injEq] at hp
               refine ⟨_, hp.symm, ?_⟩
               simp [*]))
    obtain ⟨vv, hc, _⟩ := key e (fun _ _ => rfl)
    refine one_put (d := d) (c := vv) (by simp [PS.wr]) hc (fun e2 h2 => ?_)
    obtain ⟨c2, hc2, hp2⟩ := key e2 h2
    have : vv = c2 := by
      have := congrFun (hc.symm.trans hc2) d
      rwa [put_self, put_self] at this
    rw [this]
    exact hp2
  | .fn d g fs cs, e, e', hp => by
    simp only [PRel, pstep, Option.some.injEq] at hp
    refine one_put (d := d) (c := [.fn g (fs.map fun p => (p.1, p.2.get e)) (cs.map e)]) (by simp [PS.wr]) hp.symm (fun e2 h2 => ?_)
    have h1 := rdF_eq (l := fs) (fun s hs => h2 s (by simp [PS.rd, hs]))
    have h3 : cs.map e2 = cs.map e := List.map_congr_left (fun s hs => h2 s (by simp [PS.rd, hs]))
    simp only [PRel, pstep, h1, h3]
  | .callc d s f sig args, e, e', hp => by
    simp only [PRel] at hp
    obtain ⟨fs, cs, rs, h1, h2, h3, h4, h5, h6, h7, h8⟩ := hp
    refine one_put (d := d) (c := rs.flatten) (by simp [PS.wr]) h8 (fun e2 he => ?_)
    have h9 := rdL_eq (l := args) (fun s hs => he s (by simp [PS.rd, hs]))
    exact ⟨fs, cs, rs, (he s (by simp [PS.rd])).trans h1, h2, h3, h4, h5, by rw [h9]; exact h6, h7, rfl⟩
  | .call d f sig args bs, e, e', hp => by
    simp only [PRel] at hp
    obtain ⟨rs, xs, h1, h2, h3, h4⟩ := hp
    have hpl : ∀ (bs : List Nat) (xs : List (List D)) (e : Env), xs.length = bs.length → putAll e bs xs = putL e (bs.zip xs) := by
      intro bs
      induction bs with
      | nil => intro xs e _; cases xs <;> rfl
      | cons b bs ih =>
        intro xs e hl
        cases xs with
        | nil => simp at hl
        | cons x xs => simp only [putAll, List.zip_cons_cons, putL]; exact ih xs _ (by simpa using hl)
    have happ : ∀ (l : List (Nat × List D)) (e : Env) (d : Nat) (c : List D), put (putL e l) d c = putL e (l ++ [(d, c)]) := by
      intro l
      induction l with
      | nil => intro e d c; rfl
      | cons q l ih => intro e d c; obtain ⟨a, b⟩ := q; simp only [putL, List.cons_append]; exact ih _ _ _
    refine ⟨bs.zip xs ++ [(d, rs.flatten)], fun x hx => ?_, by rw [h4, hpl bs xs e h3, happ], fun e2 he => ?_⟩
    · simp only [List.map_append, List.mem_append, List.map_cons, List.map_nil, List.mem_singleton] at hx
      rcases hx with hx | hx
      · obtain ⟨q, hq, rfl⟩ := List.mem_map.1 hx
        exact List.mem_cons_of_mem _ (List.of_mem_zip hq).1
      · rw [hx]; exact List.mem_cons_self ..
    · have h9 := rdL_eq (l := args) (fun s hs => he s (by simp [PS.rd, hs]))
      exact ⟨rs, xs, by rw [h9]; exact h1, h2, h3, by rw [hpl bs xs e2 h3, happ]⟩
  | .g s b d p, e, e', hp => by
    simp only [PRel] at hp
    rcases hp with ⟨h1, h2⟩ | ⟨h1, h2⟩
    · obtain ⟨l, k1, k2, k3⟩ := does_of h2
      exact ⟨l, fun x hx => List.mem_cons_of_mem _ (k1 x hx), k2, fun e2 he => .inl ⟨(he s (by simp [PS.rd])).trans h1, k3 e2 (fun t ht => he t (by simp [PS.rd, ht]))⟩⟩
    · refine one_put (d := d) (c := []) (by simp [PS.wr]) h2 (fun e2 he => .inr ⟨?_, rfl⟩)
      rw [he s (by simp [PS.rd])]
      exact h1

theorem indep_swap {Φ : Ask} {p q : PS} {e e1 e2 : Env} (h : indep p q = true) (hp : PRel Φ p e e1) (hq : PRel Φ q e1 e2) : ∃ e1', PRel Φ q e e1' ∧ PRel Φ p e1' e2 := by
  unfold indep at h
  simp only [Bool.and_eq_true, apartN_iff] at h
  obtain ⟨⟨h1, h2⟩, h3⟩ := h
  obtain ⟨l, a1, rfl, a3⟩ := does_of hp
  obtain ⟨m, b1, rfl, b3⟩ := does_of hq
  refine ⟨putL e m, b3 e (fun s hs => ?_), ?_⟩
  · rw [putL_ne (fun hm => h1 s (a1 s hm) hs)]
  · rw [putL_comm (fun x hx hm => h2 x (a1 x hx) (b1 x hm))]
    exact a3 _ (fun s hs => putL_ne (fun hm => h3 s (b1 s hm) hs))

/-- One of several statements is done first. -/
theorem first_of {Φ : Ask} : ∀ {l r : List PS} {p : PS} {e e' : Env}, (l.all fun q => indep q p) = true → PRels Φ (l ++ p :: r) e e' → ∃ e1, PRel Φ p e e1 ∧ PRels Φ (l ++ r) e1 e'
  | [], r, p, e, e', _, h => h
  | q :: l, r, p, e, e', hi, h => by
    simp only [List.all_cons, Bool.and_eq_true] at hi
    obtain ⟨e1, h1, h2⟩ := h
    obtain ⟨e2, h3, h4⟩ := first_of hi.2 h2
    obtain ⟨e3, h5, h6⟩ := indep_swap hi.1 h1 h3
    exact ⟨e3, h5, e2, h6, h4⟩

end V
end Go.Proofs.Ytgialjcichiaoaa

/-
Regions: in a fixed order, and in any order.
-/
namespace Go.Proofs.Ytgialjcichiaoaa
namespace V

/-! ### equality by the checker -/

theorem nbeq {a b : Nat} : Nat.beq a b = true ↔ a = b := ⟨Nat.eq_of_beq_eq_true, fun h => by rw [h]; exact Nat.beq_refl b⟩

theorem csE_ok {a b : CS} (h : csE a b = true) : a = b := by
  cases a <;> cases b <;> simp_all [csE, bEq_iff, fEq_iff, nbeq]

theorem cssE_ok : ∀ {a b : List CS}, cssE a b = true → a = b
  | [], [], _ => rfl
  | [], _ :: _, h => by cases h
  | _ :: _, [], h => by cases h
  | a :: r, b :: q, h => by
    simp only [cssE, Bool.and_eq_true] at h
    rw [csE_ok h.1, cssE_ok h.2]

theorem csssE_ok : ∀ {a b : List (Bool × List CS)}, csssE a b = true → a = b
  | [], [], _ => rfl
  | [], _ :: _, h => by cases h
  | _ :: _, [], h => by cases h
  | (x, a) :: r, (y, b) :: q, h => by
    simp only [csssE, Bool.and_eq_true, bEq_iff] at h
    rw [h.1.1, cssE_ok h.1.2, csssE_ok h.2]

theorem nsE_ok : ∀ {a b : List Nat}, nsE a b = true → a = b
  | [], [], _ => rfl
  | [], _ :: _, h => by cases h
  | _ :: _, [], h => by cases h
  | a :: r, b :: q, h => by
    simp only [nsE, Bool.and_eq_true, nbeq] at h
    rw [h.1, nsE_ok h.2]

theorem shE_ok : ∀ {a b : Sh}, shE a b = true → a = b
  | .opt g x s, b, h => by
    cases b with
    | opt g' x' s' =>
      simp only [shE, Bool.and_eq_true, nbeq, bEq_iff] at h
      rw [h.1.1, h.1.2, shE_ok h.2]
    | _ => simp [shE] at h
  | .dead, b, h => by cases b <;> simp_all [shE]
  | .v _ _, b, h => by
    cases b <;> simp [shE, bEq_iff] at h
    rw [h.1, cssE_ok h.2]
  | .box _ _, b, h => by
    cases b <;> simp [shE, bEq_iff] at h
    rw [h.1, cssE_ok h.2]
  | .pt _ _, b, h => by cases b <;> simp_all [shE, nbeq]
  | .el _ _, b, h => by
    cases b <;> simp [shE, nbeq] at h
    rw [csE_ok h.1, h.2]
  | .bx _ _ _, b, h => by cases b <;> simp_all [shE, nbeq]
  | .clo _ _, b, h => by
    cases b <;> simp [shE, nbeq] at h
    rw [h.1, nsE_ok h.2]
  | .tup _, b, h => by
    cases b <;> simp [shE] at h
    rw [csssE_ok h]

theorem kE_ok {a b : IntKind} (h : kE a b = true) : a = b := by cases a <;> cases b <;> first | rfl | cases h

theorem dE_ok : ∀ {a b : D}, dE a b = true → a = b := by
  intro a b h
  unfold dE at h
  split at h
  · simp only [Bool.and_eq_true, decide_eq_true_eq] at h
    rw [kE_ok h.1, h.2]
  · rw [bEq_iff.1 h]
  · rw [of_decide_eq_true h]
  · rfl
  · rfl
  · cases h

theorem dsE_ok : ∀ {a b : List D}, dsE a b = true → a = b
  | [], [], _ => rfl
  | [], _ :: _, h => by cases h
  | _ :: _, [], h => by cases h
  | a :: r, b :: q, h => by
    simp only [dsE, Bool.and_eq_true] at h
    rw [dE_ok h.1, dsE_ok h.2]

theorem oE_ok {a b : Opd} (h : oE a b = true) : a = b := by
  cases a <;> cases b <;> simp [oE, nbeq] at h
  · rw [h]
  · rw [dE_ok h]

theorem ooE_ok {a b : Option Opd} (h : ooE a b = true) : a = b := by
  cases a <;> cases b <;> simp [ooE] at h
  · rfl
  · rw [oE_ok h]

theorem osE_ok : ∀ {a b : List Opd}, osE a b = true → a = b
  | [], [], _ => rfl
  | [], _ :: _, h => by cases h
  | _ :: _, [], h => by cases h
  | a :: r, b :: q, h => by
    simp only [osE, Bool.and_eq_true] at h
    rw [oE_ok h.1, osE_ok h.2]

theorem opsE_ok : ∀ {a b : List (Nat × Opd)}, opsE a b = true → a = b
  | [], [], _ => rfl
  | [], _ :: _, h => by cases h
  | _ :: _, [], h => by cases h
  | (x, a) :: r, (y, b) :: q, h => by
    simp only [opsE, Bool.and_eq_true, nbeq] at h
    rw [h.1.1, oE_ok h.1.2, opsE_ok h.2]

theorem obE_ok : ∀ {a b : List (Bool × Opd)}, obE a b = true → a = b
  | [], [], _ => rfl
  | [], _ :: _, h => by cases h
  | _ :: _, [], h => by cases h
  | (x, a) :: r, (y, b) :: q, h => by
    simp only [obE, Bool.and_eq_true, bEq_iff] at h
    rw [h.1.1, oE_ok h.1.2, obE_ok h.2]

theorem psE_ok : ∀ {p q : PS}, psE p q = true → p = q
  | .g s b d p, q, h => by
    cases q with
    | g s' b' d' p' =>
      simp only [psE, Bool.and_eq_true, nbeq, bEq_iff] at h
      obtain ⟨⟨⟨rfl, rfl⟩, rfl⟩, h⟩ := h
      rw [psE_ok h]
    | _ => simp [psE] at h
  | .nop, q, h => by
    cases q with
    | nop =>
      rfl
    | _ => simp [psE] at h
  | .mv _ _, q, h => by
    cases q with
    | mv _ _ =>
      simp only [psE, Bool.and_eq_true, nbeq, bEq_iff, decide_eq_true_eq] at h
      obtain ⟨h0, h1⟩ := h
      rw [h0, oE_ok h1]
    | _ => simp [psE] at h
  | .sub _ _ _ _, q, h => by
    cases q with
    | sub _ _ _ _ =>
      simp only [psE, Bool.and_eq_true, nbeq, bEq_iff, decide_eq_true_eq] at h
      obtain ⟨⟨⟨h0, h1⟩, h2⟩, h3⟩ := h
      rw [h0, h1, h2, h3]
    | _ => simp [psE] at h
  | .bld _ _ _, q, h => by
    cases q with
    | bld _ _ _ =>
      simp only [psE, Bool.and_eq_true, nbeq, bEq_iff, decide_eq_true_eq] at h
      obtain ⟨⟨h0, h1⟩, h2⟩ := h
      rw [h0, dsE_ok h1, opsE_ok h2]
    | _ => simp [psE] at h
  | .lit _ _ _ _, q, h => by
    cases q with
    | lit _ _ _ _ =>
      simp only [psE, Bool.and_eq_true, nbeq, bEq_iff, decide_eq_true_eq] at h
      obtain ⟨⟨⟨h0, h1⟩, h2⟩, h3⟩ := h
      rw [h0, h1, dsE_ok h2, opsE_ok h3]
    | _ => simp [psE] at h
  | .mk _ _ _ _, q, h => by
    cases q with
    | mk _ _ _ _ =>
      simp only [psE, Bool.and_eq_true, nbeq, bEq_iff, decide_eq_true_eq] at h
      obtain ⟨⟨⟨h0, h1⟩, h2⟩, h3⟩ := h
      rw [h0, dsE_ok h1, oE_ok h2, oE_ok h3]
    | _ => simp [psE] at h
  | .st _ _ _, q, h => by
    cases q with
    | st _ _ _ =>
      simp only [psE, Bool.and_eq_true, nbeq, bEq_iff, decide_eq_true_eq] at h
      obtain ⟨⟨h0, h1⟩, h2⟩ := h
      rw [h0, h1, oE_ok h2]
    | _ => simp [psE] at h
  | .bin _ _ _ _, q, h => by
    cases q with
    | bin _ _ _ _ =>
      simp only [psE, Bool.and_eq_true, nbeq, bEq_iff, decide_eq_true_eq] at h
      obtain ⟨⟨⟨h0, h1⟩, h2⟩, h3⟩ := h
      rw [h0, h1, oE_ok h2, oE_ok h3]
    | _ => simp [psE] at h
  | .un _ _ _, q, h => by
    cases q with
    | un _ _ _ =>
      simp only [psE, Bool.and_eq_true, nbeq, bEq_iff, decide_eq_true_eq] at h
      obtain ⟨⟨h0, h1⟩, h2⟩ := h
      rw [h0, h1, oE_ok h2]
    | _ => simp [psE] at h
  | .beq _ _ _ _, q, h => by
    cases q with
    | beq _ _ _ _ =>
      simp only [psE, Bool.and_eq_true, nbeq, bEq_iff, decide_eq_true_eq] at h
      obtain ⟨⟨⟨h0, h1⟩, h2⟩, h3⟩ := h
      rw [h0, h1, oE_ok h2, oE_ok h3]
    | _ => simp [psE] at h
  | .eqs _ _ _ _ _, q, h => by
    cases q with
    | eqs _ _ _ _ _ =>
      simp only [psE, Bool.and_eq_true, nbeq, bEq_iff, decide_eq_true_eq] at h
      obtain ⟨⟨⟨⟨h0, h1⟩, h2⟩, h3⟩, h4⟩ := h
      rw [h0, h1, dsE_ok h2, oE_ok h3, oE_ok h4]
    | _ => simp [psE] at h
  | .pick _ _ _ _, q, h => by
    cases q with
    | pick _ _ _ _ =>
      simp only [psE, Bool.and_eq_true, nbeq, bEq_iff, decide_eq_true_eq] at h
      obtain ⟨⟨⟨h0, h1⟩, h2⟩, h3⟩ := h
      rw [h0, oE_ok h1, oE_ok h2, oE_ok h3]
    | _ => simp [psE] at h
  | .elp _ _ _ _, q, h => by
    cases q with
    | elp _ _ _ _ =>
      simp only [psE, Bool.and_eq_true, nbeq, bEq_iff, decide_eq_true_eq] at h
      obtain ⟨⟨⟨h0, h1⟩, h2⟩, h3⟩ := h
      rw [h0, oE_ok h1, oE_ok h2, h3]
    | _ => simp [psE] at h
  | .eld _ _ _ _, q, h => by
    cases q with
    | eld _ _ _ _ =>
      simp only [psE, Bool.and_eq_true, nbeq, bEq_iff, decide_eq_true_eq] at h
      obtain ⟨⟨⟨h0, h1⟩, h2⟩, h3⟩ := h
      rw [h0, h1, h2, dsE_ok h3]
    | _ => simp [psE] at h
  | .els _ _ _ _ _, q, h => by
    cases q with
    | els _ _ _ _ _ =>
      simp only [psE, Bool.and_eq_true, nbeq, bEq_iff, decide_eq_true_eq] at h
      obtain ⟨⟨⟨⟨h0, h1⟩, h2⟩, h3⟩, h4⟩ := h
      rw [h0, h1, h2, h3, oE_ok h4]
    | _ => simp [psE] at h
  | .bxp _ _ _, q, h => by
    cases q with
    | bxp _ _ _ =>
      simp only [psE, Bool.and_eq_true, nbeq, bEq_iff, decide_eq_true_eq] at h
      obtain ⟨⟨h0, h1⟩, h2⟩ := h
      rw [h0, oE_ok h1, h2]
    | _ => simp [psE] at h
  | .bxl _ _ _ _ _ _, q, h => by
    cases q with
    | bxl _ _ _ _ _ _ =>
      simp only [psE, Bool.and_eq_true, nbeq, bEq_iff, decide_eq_true_eq] at h
      obtain ⟨⟨⟨⟨⟨h0, h1⟩, h2⟩, h3⟩, h4⟩, h5⟩ := h
      rw [h0, h1, h2, h3, h4, h5]
    | _ => simp [psE] at h
  | .bxs _ _ _ _ _, q, h => by
    cases q with
    | bxs _ _ _ _ _ =>
      simp only [psE, Bool.and_eq_true, nbeq, bEq_iff, decide_eq_true_eq] at h
      obtain ⟨⟨⟨⟨h0, h1⟩, h2⟩, h3⟩, h4⟩ := h
      rw [h0, h1, h2, h3, oE_ok h4]
    | _ => simp [psE] at h
  | .len _ _, q, h => by
    cases q with
    | len _ _ =>
      simp only [psE, Bool.and_eq_true, nbeq, bEq_iff, decide_eq_true_eq] at h
      obtain ⟨h0, h1⟩ := h
      rw [h0, oE_ok h1]
    | _ => simp [psE] at h
  | .slen _ _, q, h => by
    cases q with
    | slen _ _ =>
      simp only [psE, Bool.and_eq_true, nbeq, bEq_iff, decide_eq_true_eq] at h
      obtain ⟨h0, h1⟩ := h
      rw [h0, oE_ok h1]
    | _ => simp [psE] at h
  | .sidx _ _ _, q, h => by
    cases q with
    | sidx _ _ _ =>
      simp only [psE, Bool.and_eq_true, nbeq, bEq_iff, decide_eq_true_eq] at h
      obtain ⟨⟨h0, h1⟩, h2⟩ := h
      rw [h0, oE_ok h1, oE_ok h2]
    | _ => simp [psE] at h
  | .ssl _ _ _ _, q, h => by
    cases q with
    | ssl _ _ _ _ =>
      simp only [psE, Bool.and_eq_true, nbeq, bEq_iff, decide_eq_true_eq] at h
      obtain ⟨⟨⟨h0, h1⟩, h2⟩, h3⟩ := h
      rw [h0, oE_ok h1, ooE_ok h2, ooE_ok h3]
    | _ => simp [psE] at h
  | .lsl _ _ _ _ _ _, q, h => by
    cases q with
    | lsl _ _ _ _ _ _ =>
      simp only [psE, Bool.and_eq_true, nbeq, bEq_iff, decide_eq_true_eq] at h
      obtain ⟨⟨⟨⟨⟨h0, h1⟩, h2⟩, h3⟩, h4⟩, h5⟩ := h
      rw [h0, h1, oE_ok h2, ooE_ok h3, ooE_ok h4, ooE_ok h5]
    | _ => simp [psE] at h
  | .app _ _ _ _ _, q, h => by
    cases q with
    | app _ _ _ _ _ =>
      simp only [psE, Bool.and_eq_true, nbeq, bEq_iff, decide_eq_true_eq] at h
      obtain ⟨⟨⟨⟨h0, h1⟩, h2⟩, h3⟩, h4⟩ := h
      rw [h0, h1, h2, oE_ok h3, oE_ok h4]
    | _ => simp [psE] at h
  | .cvt _ _ _, q, h => by
    cases q with
    | cvt _ _ _ =>
      simp only [psE, Bool.and_eq_true, nbeq, bEq_iff, decide_eq_true_eq] at h
      obtain ⟨⟨h0, h1⟩, h2⟩ := h
      rw [h0, kE_ok h1, oE_ok h2]
    | _ => simp [psE] at h
  | .s2b _ _, q, h => by
    cases q with
    | s2b _ _ =>
      simp only [psE, Bool.and_eq_true, nbeq, bEq_iff, decide_eq_true_eq] at h
      obtain ⟨h0, h1⟩ := h
      rw [h0, oE_ok h1]
    | _ => simp [psE] at h
  | .b2s _ _, q, h => by
    cases q with
    | b2s _ _ =>
      simp only [psE, Bool.and_eq_true, nbeq, bEq_iff, decide_eq_true_eq] at h
      obtain ⟨h0, h1⟩ := h
      rw [h0, oE_ok h1]
    | _ => simp [psE] at h
  | .ext _ _ _ _, q, h => by
    cases q with
    | ext _ _ _ _ =>
      simp only [psE, Bool.and_eq_true, nbeq, bEq_iff, decide_eq_true_eq] at h
      obtain ⟨⟨⟨h0, h1⟩, h2⟩, h3⟩ := h
      rw [h0, h1, h2, h3]
    | _ => simp [psE] at h
  | .min _ _ _, q, h => by
    cases q with
    | min _ _ _ =>
      simp only [psE, Bool.and_eq_true, nbeq, bEq_iff, decide_eq_true_eq] at h
      obtain ⟨⟨h0, h1⟩, h2⟩ := h
      rw [h0, oE_ok h1, oE_ok h2]
    | _ => simp [psE] at h
  | .i2s _ _, q, h => by
    cases q with
    | i2s _ _ =>
      simp only [psE, Bool.and_eq_true, nbeq, bEq_iff, decide_eq_true_eq] at h
      obtain ⟨h0, h1⟩ := h
      rw [h0, oE_ok h1]
    | _ => simp [psE] at h
  | .fn _ _ _ _, q, h => by
    cases q with
    | fn _ _ _ _ =>
      simp only [psE, Bool.and_eq_true, nbeq, bEq_iff, decide_eq_true_eq] at h
      obtain ⟨⟨⟨h0, h1⟩, h2⟩, h3⟩ := h
      rw [h0, h1, obE_ok h2, nsE_ok h3]
    | _ => simp [psE] at h
  | .callc _ _ _ _ _, q, h => by
    cases q with
    | callc _ _ _ _ _ =>
      simp only [psE, Bool.and_eq_true, nbeq, bEq_iff, decide_eq_true_eq] at h
      obtain ⟨⟨⟨⟨h0, h1⟩, h2⟩, h3⟩, h4⟩ := h
      rw [h0, h1, h2, h3, osE_ok h4]
    | _ => simp [psE] at h
  | .call _ _ _ _ _, q, h => by
    cases q with
    | call _ _ _ _ _ =>
      simp only [psE, Bool.and_eq_true, nbeq, bEq_iff, decide_eq_true_eq] at h
      obtain ⟨⟨⟨⟨h0, h1⟩, h2⟩, h3⟩, h4⟩ := h
      rw [h0, h1, h2, osE_ok h3, nsE_ok h4]
    | _ => simp [psE] at h

theorem leT_ok {T : St} : ∀ {S : St}, leT T S = true → ∀ {w : World} {cx : Cx} {own : Own} {env : Env} {tv : Nat → Value}, Inv T w cx own env tv → Inv S w cx own env tv
  | [], _, _, _, _, _, _, _ => fun p hp => by simp at hp
  | (z, sh) :: r, h, w, cx, own, env, tv, hT => by
    simp only [leT, Bool.and_eq_true] at h
    intro p hp
    rcases List.mem_cons.1 hp with rfl | hp
    · have h1 := h.1
      have h2 := hT.look z
      cases sh with
      | dead => trivial
      | _ =>
        dsimp only at h1
        rw [shE_ok h1] at h2
        exact h2
    · exact leT_ok h.2 hT p hp

/-! ### what is left of a state -/

def cl (d : Option Nat) : St → St
  | [] => []
  | (z, sh) :: r => match sh with
    | .dead => cl d r
    | sh => match (match d with | some d => Nat.beq z d | none => false) with
      | true => cl d r
      | false => (z, sh) :: cl d r

theorem fSt_eq {α : Type} (d : Option Nat) : ∀ (S : St) (k : St → α), fSt d S k = k (cl d S)
  | [], k => rfl
  | (z, sh) :: r, k => by
    cases d with
    | none => cases sh <;> simp only [fSt, cl] <;> first | exact fSt_eq none r k | rw [fSh_eq, fSt_eq none r]
    | some d0 =>
      cases hb : Nat.beq z d0 <;> cases sh <;> simp only [fSt, cl, hb] <;> first | exact fSt_eq (some d0) r k | rw [fSh_eq, fSt_eq (some d0) r]

theorem cl_sub (d : Option Nat) : ∀ {S : St} {p : Nat × Sh}, p ∈ cl d S → p ∈ S
  | [], p, h => h
  | (z, sh) :: r, p, h => by
    cases sh with
    | dead => simp only [cl] at h; exact List.mem_cons_of_mem _ (cl_sub d h)
    | _ =>
      simp only [cl] at h
      split at h
      · exact List.mem_cons_of_mem _ (cl_sub d h)
      · rcases List.mem_cons.1 h with rfl | h
        · exact List.mem_cons_self ..
        · exact List.mem_cons_of_mem _ (cl_sub d h)

/-- What all runs of a function share. -/
structure Ctx (P : Program) (C : Cfg) (W : Wld) (w0 : World) (own0 : Own) (Φ : Ask) : Prop where
  cfg : CfgOk P C
  eq : EqOk P C
  ask : ∀ f sig ins outs, Φ f sig ins outs → FunOk P W f sig ins outs
  world : W.P w0
  low : ∀ g i, own0 g = some i → W.G ≤ g
  mixed : P.follows .mixedOrders = true

/-- A state of a running function. -/
structure Now (C : Cfg) (T0 : Nat → Value) (w0 : World) (own0 : Own) (cx : Cx) (S : St) (own : Own) (env : Env) (a : Act) (w : World) : Prop where
  wok : WOk w0 own0 cx own w
  inv : Inv S w cx own env (tvA a)
  size : a.tmps.size = C.n
  defers : a.defers = []
  pin : ∀ k, C.pin.any (Nat.beq k) = true → tvA a k = T0 k

section
variable {P : Program} {C : Cfg} {W : Wld} {T0 : Nat → Value} {w0 : World} {own0 : Own} {cx : Cx} {Φ : Ask} {ops : Array Oper} {Q : Exit → Act → World → Prop}

theorem Ctx.hP (X : Ctx P C W w0 own0 Φ) {own : Own} {w : World} (h : WOk w0 own0 cx own w) : W.P w := W.keep own0 w0 w h.kept X.low X.world

theorem Ctx.hG (X : Ctx P C W w0 own0 Φ) {own : Own} {w : World} (h : WOk w0 own0 cx own w) : ∀ g, cx.N g → W.G ≤ g := fun g hg => by
  rcases (h.n g).1 hg with h1 | h1
  · exact Nat.le_trans (W.size w0 X.world) h1
  · cases ho : own0 g with
    | none => exact absurd ho h1
    | some i => exact X.low g i ho

theorem Now.sub {S S' : St} {own : Own} {env : Env} {a : Act} {w : World} (h : Now C T0 w0 own0 cx S own env a w) (hs : ∀ p ∈ S', p ∈ S) : Now C T0 w0 own0 cx S' own env a w :=
  ⟨h.wok, fun p hp => h.inv p (hs p hp), h.size, h.defers, h.pin⟩

theorem Now.done {S : St} {own : Own} {env : Env} {a : Act} {w : World} {u : Up} {own' : Own} {w' : World} {a' : Act} {env' : Env} (h : Now C T0 w0 own0 cx S own env a w) (hD : Done cx own w a env u own' w' a' env') (hpin : ∀ d sh, u.dst = some (d, sh) → C.pin.any (Nat.beq d) = false) : Now C T0 w0 own0 cx (u.run S) own' env' a' w' :=
  ⟨h.wok.step hD.st, h.inv.run hD.st hD.af hD.bx hD.dst, hD.size.trans h.size, hD.defers.trans h.defers, fun k hk => by
    rw [hD.st.tv k (fun e => ?_)]
    · exact h.pin k hk
    · unfold Up.d at e
      cases hu : u.dst with
      | none => rw [hu] at e; cases e
      | some q =>
        rw [hu] at e
        simp only [Option.map_some, Option.some.injEq] at e
        have := hpin q.1 q.2 hu
        rw [e, hk] at this
        cases this⟩

theorem cStep_some {S S1 : St} {i : Nat} {p : PS} (h : cStep C ops S i = some (S1, p)) : ∃ o u, ops[i]? = some o ∧ cOper C ops (look S) o = some (u, p) ∧ (∀ q ∈ S1, q ∈ u.run S) ∧ ∀ d sh, u.dst = some (d, sh) → C.pin.any (Nat.beq d) = false := by
  unfold cStep at h
  split at h
  · cases h
  rename_i o ho
  split at h
  · cases h
  rename_i u p' hc
  rw [fUp_eq] at h
  have hcc : cOper C ops (look S) o = some (u, p) := by
    split at h <;> rw [fSt_eq] at h <;> simp only [Option.some.injEq, Prod.mk.injEq] at h <;> rw [hc, h.2]
  refine ⟨o, u, ho, hcc, ?_, (fun d sh h => ((cOper_cases (a := { tmps := Array.replicate C.n undef, defers := [] }) (by simp) hcc).1 d sh h).2.2)⟩
  · unfold Up.run
    split at h
    · rename_i hd
      rw [fSt_eq] at h
      simp only [Option.some.injEq, Prod.mk.injEq] at h
      rw [hd, ← h.1]
      exact fun q hq => cl_sub _ hq
    · rename_i d nsh hd
      rw [fSt_eq] at h
      simp only [Option.some.injEq, Prod.mk.injEq] at h
      rw [hd, ← h.1]
      intro q hq
      rcases List.mem_cons.1 hq with rfl | hq
      · exact List.mem_cons_self ..
      · exact List.mem_cons_of_mem _ (cl_sub _ hq)

theorem step_ok (X : Ctx P C W w0 own0 Φ) {S S1 : St} {i : Nat} {p : PS} {own : Own} {env env' : Env} {a : Act} {w : World} (h : cStep C ops S i = some (S1, p)) (hN : Now C T0 w0 own0 cx S own env a w) (hp : PRel Φ p env env') {K : Act → World → Prop}
    (hK : ∀ own' w' a', Now C T0 w0 own0 cx S1 own' env' a' w' → K a' w') : wpOp P ops Q i K a w := by
  obtain ⟨o, u, ho, hc, hs, hpin⟩ := cStep_some h
  exact oper_ok X.cfg X.eq X.ask hN.wok (X.hG hN.wok) (X.hP hN.wok) hN.inv.look hN.size ho hc hp K Q (fun own' w' a' hD => hK own' w' a' ((hN.done hD hpin).sub hs))

theorem seq_ok (X : Ctx P C W w0 own0 Φ) : ∀ {l : List Nat} {S S' : St} {ps : List PS} {own : Own} {env env' : Env} {a : Act} {w : World}, cSeq C ops l S = some (S', ps) → Now C T0 w0 own0 cx S own env a w → PRels Φ ps env env' →
    (∀ own' w' a', Now C T0 w0 own0 cx S' own' env' a' w' → Q .normal a' w') → wpOps P ops Q l a w
  | [], S, S', ps, own, env, env', a, w, h, hN, hp, hQ => by
    simp only [cSeq, Option.some.injEq, Prod.mk.injEq] at h
    obtain ⟨rfl, rfl⟩ := h
    simp only [PRels] at hp
    subst hp
    exact hQ own w a hN
  | i :: r, S, S', ps, own, env, env', a, w, h, hN, hp, hQ => by
    simp only [cSeq] at h
    split at h
    · cases h
    rename_i S1 p hc
    split at h
    · cases h
    rename_i S2 ps2 hs
    simp only [Option.some.injEq, Prod.mk.injEq] at h
    obtain ⟨rfl, rfl⟩ := h
    obtain ⟨e1, h1, h2⟩ := hp
    rw [wpOps_cons]
    exact step_ok X hc hN h1 (fun own' w' a' hN' => seq_ok X hs hN' h2 hQ)

theorem cSeq_len : ∀ {l : List Nat} {S S' : St} {ps : List PS}, cSeq C ops l S = some (S', ps) → ps.length = l.length
  | [], S, S', ps, h => by
    simp only [cSeq, Option.some.injEq, Prod.mk.injEq] at h
    rw [← h.2]; rfl
  | i :: r, S, S', ps, h => by
    simp only [cSeq] at h
    split at h
    · cases h
    split at h
    · cases h
    rename_i hs
    simp only [Option.some.injEq, Prod.mk.injEq] at h
    rw [← h.2, List.length_cons, List.length_cons, cSeq_len hs]

/-! ### any order -/

def restP (D : Nat) : List PS → Nat → List PS
  | [], _ => []
  | q :: r, j => if D.testBit j then restP D r (j + 1) else q :: restP D r (j + 1)

theorem setD_bit (D i j : Nat) : (setD D i).testBit j = (D.testBit j || i == j) := by
  unfold setD
  rw [Nat.testBit_or, Nat.one_shiftLeft, Nat.testBit_two_pow]
  rfl

theorem restP_set {D i : Nat} : ∀ {r : List PS} {j : Nat}, i < j → restP (setD D i) r j = restP D r j
  | [], j, _ => rfl
  | q :: r, j, h => by
    have : (i == j) = false := by simp; omega
    simp only [restP, setD_bit, this, Bool.or_false, restP_set (r := r) (j := j + 1) (Nat.lt_succ_of_lt h)]

theorem take_ps {D i : Nat} {q : PS} (hb : D.testBit i = false) : ∀ {ps : List PS} {j : Nat} {e e' : Env}, j ≤ i → ps[i - j]? = some q → aheadOk D i ps j q = true → PRels Φ (restP D ps j) e e' → ∃ e1, PRel Φ q e e1 ∧ PRels Φ (restP (setD D i) ps j) e1 e'
  | [], j, e, e', _, h, _, _ => by simp at h
  | p :: r, j, e, e', hj, h, ha, hp => by
    simp only [aheadOk] at ha
    cases hji : Nat.beq j i with
    | true =>
      have : j = i := nbeq.1 hji
      subst this
      simp only [Nat.sub_self, List.getElem?_cons_zero, Option.some.injEq] at h
      subst h
      simp only [restP, hb, Bool.false_eq_true, if_false] at hp
      obtain ⟨e1, h1, h2⟩ := hp
      refine ⟨e1, h1, ?_⟩
      simp only [restP, setD_bit, beq_self_eq_true, Bool.or_true, if_true]
      rw [restP_set (Nat.lt_succ_self j)]
      exact h2
    | false =>
      rw [hji] at ha
      simp only [Bool.and_eq_true, Bool.or_eq_true] at ha
      have hne : j ≠ i := Nat.ne_of_beq_eq_false hji
      have hji' : (i == j) = false := by simp; omega
      have hget : r[i - (j + 1)]? = some q := by
        rw [← h, show i - j = (i - (j + 1)) + 1 from by omega, List.getElem?_cons_succ]
      cases hbj : D.testBit j with
      | true =>
        simp only [restP, hbj, if_true] at hp
        obtain ⟨e1, h1, h2⟩ := take_ps hb (by omega) hget ha.2 hp
        refine ⟨e1, h1, ?_⟩
        simp only [restP, setD_bit, hbj, Bool.true_or, if_true]
        exact h2
      | false =>
        simp only [restP, hbj, Bool.false_eq_true, if_false] at hp
        obtain ⟨e2, h3, h4⟩ := hp
        obtain ⟨e3, h5, h6⟩ := take_ps hb (by omega) hget ha.2 h4
        have hi : indep p q = true := by
          rcases ha.1 with h | h
          · rw [hbj] at h; cases h
          · exact h
        obtain ⟨e1, h7, h8⟩ := indep_swap hi h3 h5
        refine ⟨e1, h7, ?_⟩
        simp only [restP, setD_bit, hbj, hji', Bool.or_false, Bool.false_eq_true, if_false]
        exact ⟨e3, h8, h6⟩

theorem restP_zero : ∀ {r : List PS} {j : Nat}, restP 0 r j = r
  | [], _ => rfl
  | q :: r, j => by simp [restP, restP_zero]

theorem restP_full {D : Nat} : ∀ {r : List PS} {j : Nat}, (∀ k, j ≤ k → k < j + r.length → D.testBit k = true) → restP D r j = []
  | [], _, _ => rfl
  | q :: r, j, h => by
    simp only [restP, h j (Nat.le_refl _) (by simp), if_true]
    exact restP_full (fun k h1 h2 => h k (by omega) (by simp; omega))

/-- The mask says what is listed. -/
def Agree (n : Nat) (listed : Array Bool) (D : Nat) : Prop := listed.size = n ∧ ∀ j, listed.getD j false = D.testBit j

theorem Agree.getT {n : Nat} {listed : Array Bool} {D : Nat} (h : Agree n listed D) {j : Nat} (hj : j < n) : listed.getD j true = D.testBit j := by
  rw [← h.2 j]
  have : j < listed.size := by rw [h.1]; exact hj
  simp [this]

theorem Agree.set {n : Nat} {listed : Array Bool} {D : Nat} (h : Agree n listed D) {i : Nat} (hi : i < n) : Agree n (listed.setIfInBounds i true) (setD D i) := by
  refine ⟨by simp [h.1], fun j => ?_⟩
  rw [setD_bit, ← h.2 j]
  have hil : i < listed.size := by rw [h.1]; exact hi
  by_cases hij : i = j
  · subst hij
    simp [hil]
  · rw [getD_set_ne false hij]
    simp [hij]

theorem ready_eq {listed : Array Bool} {D : Nat} (h : Agree ops.size listed D) : Region.ready .any ops listed = readyD ops D := by
  unfold Region.ready readyD
  apply List.filter_congr
  intro i hi
  have hil := List.mem_range.1 hi
  rw [h.getT hil]
  unfold readyI
  cases hb : D.testBit i with
  | true => rfl
  | false =>
    simp only [Bool.not_false, Bool.true_and]
    rw [Array.getElem?_eq_getElem hil]
    simp only [Option.map_some, Option.getD_some]
    rw [← Array.all_toList]
    congr 1
    funext e
    rw [h.2 e.on]

theorem free_eq {listed : Array Bool} {D i : Nat} (h : Agree ops.size listed D) : Region.free .any ops listed i = freeD ops D i := by
  unfold Region.free freeD
  cases ops[i]? with
  | none => rfl
  | some oi =>
    dsimp only
    rw [Bool.eq_iff_iff, List.all_eq_true, List.all_eq_true]
    refine forall_congr' fun j => ?_
    refine imp_congr_right fun hj => ?_
    have hjl := List.mem_range.1 hj
    rw [h.getT hjl]
    have : (j == i) = Nat.beq j i := by
      rw [Bool.eq_iff_iff, nbeq, beq_iff_eq]
    rw [this]
    cases ops[j]? <;> rfl

def cntD (n D : Nat) : Nat := ((List.range n).filter fun i => !D.testBit i).length

theorem cntD_set {n D i : Nat} (hi : i < n) (hb : D.testBit i = false) : cntD n (setD D i) < cntD n D := by
  unfold cntD
  have hsub : ∀ l : List Nat, ((l.filter fun k => !(setD D i).testBit k)).length ≤ (l.filter fun k => !D.testBit k).length := by
    intro l
    induction l with
    | nil => simp
    | cons k l ih =>
      simp only [List.filter_cons]
      cases h1 : D.testBit k with
      | true =>
        have : (setD D i).testBit k = true := by rw [setD_bit, h1]; rfl
        simp only [this, Bool.not_true, Bool.false_eq_true, if_false]
        exact ih
      | false =>
        simp only [Bool.not_false, if_true, List.length_cons]
        split
        · simp only [List.length_cons]; omega
        · omega
  have key : ∀ l : List Nat, i ∈ l → ((l.filter fun k => !(setD D i).testBit k)).length < (l.filter fun k => !D.testBit k).length := by
    intro l
    induction l with
    | nil => simp
    | cons k l ih =>
      intro hm
      simp only [List.filter_cons]
      by_cases hki : k = i
      · subst hki
        have : (setD D k).testBit k = true := by rw [setD_bit]; simp
        simp only [this, hb, Bool.not_true, Bool.false_eq_true, if_false, Bool.not_false, if_true, List.length_cons]
        exact Nat.lt_succ_of_le (hsub l)
      · have hm' : i ∈ l := by
          rcases List.mem_cons.1 hm with h | h
          · exact absurd h.symm hki
          · exact h
        have hne : (i == k) = false := by simp; omega
        rw [setD_bit, hne, Bool.or_false]
        cases h1 : D.testBit k with
        | true => simpa using ih hm'
        | false => simpa using ih hm'
  exact key _ (List.mem_range.2 hi)

theorem readyI_spec {D i : Nat} (h : i ∈ readyD ops D) : i < ops.size ∧ D.testBit i = false := by
  unfold readyD at h
  obtain ⟨h1, h2⟩ := List.mem_filter.1 h
  refine ⟨List.mem_range.1 h1, ?_⟩
  unfold readyI at h2
  cases hb : D.testBit i with
  | true => rw [hb] at h2; cases h2
  | false => rfl

theorem firstQ_spec {ref : List PS} {D : Nat} : ∀ {l : List Nat} {k : Nat}, firstQ ops ref D l = some k → k ∈ l ∧ ∃ o p, ops[k]? = some o ∧ ref[k]? = some p ∧ quietP o p = true ∧ freeD ops D k = true
  | [], k, h => by cases h
  | i :: r, k, h => by
    simp only [firstQ] at h
    split at h
    · rename_i o p ho hp
      split at h
      · rename_i hq
        simp only [Option.some.injEq] at h
        subst h
        simp only [Bool.and_eq_true] at hq
        exact ⟨List.mem_cons_self .., o, p, ho, hp, hq.1, hq.2⟩
      · obtain ⟨h1, h2⟩ := firstQ_spec h
        exact ⟨List.mem_cons_of_mem _ h1, h2⟩
    · obtain ⟨h1, h2⟩ := firstQ_spec h
      exact ⟨List.mem_cons_of_mem _ h1, h2⟩

theorem tbGet_chk {ref : List PS} {tb : Tb} {Sf : St} : ∀ {t : Tb} {D : Nat} {S : St}, tbGet t D = some S → chkTb C ops ref tb Sf t = true → chkD C ops ref tb Sf (D, S) = true
  | [], D, S, h, _ => by cases h
  | (k, T) :: r, D, S, h, hc => by
    simp only [chkTb] at hc
    split at hc
    · rename_i h1
      simp only [tbGet] at h
      cases hb : Nat.beq D k with
      | true =>
        rw [hb] at h
        simp only [Option.some.injEq] at h
        rw [nbeq.1 hb, ← h]
        exact h1
      | false => rw [hb] at h; exact tbGet_chk h hc
    · cases hc

theorem transD_spec {ref : List PS} {tb : Tb} {D i : Nat} {S : St} (h : transD C ops ref tb D S i = true) : ∃ S1 p S', cStep C ops S i = some (S1, p) ∧ ref[i]? = some p ∧ aheadOk D i ref 0 p = true ∧ tbGet tb (setD D i) = some S' ∧ leT S1 S' = true := by
  unfold transD at h
  split at h
  · rename_i S1 p q hc hr
    simp only [Bool.and_eq_true] at h
    obtain ⟨⟨h1, h2⟩, h3⟩ := h
    have := psE_ok h1
    subst this
    split at h3
    · rename_i S' hS'
      exact ⟨S1, p, S', hc, hr, h2, hS', h3⟩
    · cases h3
  · cases h

theorem draw_go (X : Ctx P C W w0 own0 Φ) (hQp : ∀ c a w, ¬Q (.panic c) a w) (hsel : Region.noSelect ops = true) {ref : List PS} {tb : Tb} {Sf : St} {env' : Env} (hlen : ref.length = ops.size) (htb : chkTb C ops ref tb Sf tb = true)
    (hQ : ∀ own' w' a', Now C T0 w0 own0 cx Sf own' env' a' w' → Q .normal a' w') :
    ∀ (fuel D : Nat) (listed : Array Bool) (S : St) (own : Own) (env : Env) (a : Act) (w : World), Agree ops.size listed D → tbGet tb D = some S → Now C T0 w0 own0 cx S own env a w → PRels Φ (restP D ref 0) env env' → cntD ops.size D ≤ fuel → wpAny P .any ops Q fuel listed a w := by
  intro fuel
  induction fuel with
  | zero =>
    intro D listed S own env a w hA hS hN hp hc
    have hchk := tbGet_chk hS htb
    have hr := ready_eq hA
    cases hrd : readyD ops D with
    | cons i r =>
      obtain ⟨h1, h2⟩ := readyI_spec (ops := ops) (D := D) (i := i) (by rw [hrd]; exact List.mem_cons_self ..)
      have := cntD_set h1 h2
      omega
    | nil =>
      unfold chkD at hchk
      dsimp only at hchk
      rw [hrd] at hchk
      simp only [Bool.and_eq_true] at hchk
      rw [restP_full (fun k _ h2 => by
        have := List.all_eq_true.1 hchk.1 k (List.mem_range.2 (by omega))
        exact this)] at hp
      simp only [PRels] at hp
      subst hp
      exact wpAny_done (hr.trans hrd) (hQ own w a ⟨hN.wok, leT_ok hchk.2 hN.inv, hN.size, hN.defers, hN.pin⟩) 0
  | succ fuel ih =>
    intro D listed S own env a w hA hS hN hp hc
    have hchk := tbGet_chk hS htb
    have hr := ready_eq hA
    unfold chkD at hchk
    dsimp only at hchk
    cases hrd : readyD ops D with
    | nil =>
      rw [hrd] at hchk
      simp only [Bool.and_eq_true] at hchk
      rw [restP_full (fun k _ h2 => by
        have := List.all_eq_true.1 hchk.1 k (List.mem_range.2 (by omega))
        exact this)] at hp
      simp only [PRels] at hp
      subst hp
      exact wpAny_done (hr.trans hrd) (hQ own w a ⟨hN.wok, leT_ok hchk.2 hN.inv, hN.size, hN.defers, hN.pin⟩) _
    | cons i r =>
      rw [hrd] at hchk
      dsimp only at hchk
      have go : ∀ k, k ∈ readyD ops D → transD C ops ref tb D S k = true → ∃ S1 p e1, cStep C ops S k = some (S1, p) ∧ ref[k]? = some p ∧ PRel Φ p env e1 ∧
          ∀ own' w' a', Now C T0 w0 own0 cx S1 own' e1 a' w' → wpAny P .any ops Q fuel (listed.setIfInBounds k true) a' w' := by
        intro k hk ht
        obtain ⟨h1, h2⟩ := readyI_spec hk
        obtain ⟨S1, p, S', h3, h4, h5, h6, h7⟩ := transD_spec ht
        obtain ⟨e1, h8, h9⟩ := take_ps h2 (Nat.zero_le k) (by rw [Nat.sub_zero]; exact h4) h5 hp
        refine ⟨S1, p, e1, h3, h4, h8, fun own' w' a' hN' => ?_⟩
        refine ih (setD D k) _ S' own' e1 a' w' (hA.set h1) h6 ⟨hN'.wok, leT_ok h7 hN'.inv, hN'.size, hN'.defers, hN'.pin⟩ h9 ?_
        have := cntD_set h1 h2
        omega
      split at hchk
      · rename_i k hk
        obtain ⟨h1, o, p0, h2, h3, h4, h5⟩ := firstQ_spec hk
        obtain ⟨S1, p, e1, k1, k2, k3, k4⟩ := go k (by rw [hrd]; exact h1) hchk
        rw [h3] at k2
        simp only [Option.some.injEq] at k2
        subst k2
        obtain ⟨o', u, m1, m2, m3, m4⟩ := cStep_some k1
        rw [h2] at m1
        simp only [Option.some.injEq] at m1
        subst m1
        obtain ⟨v, own', hy, hD⟩ := operQ_ok X.cfg hN.wok hN.inv.look hN.size m2 h4 k3
        refine wpAny_take (i := k) (oi := o) (v := v) h2 hsel (by rw [free_eq hA]; exact h5) (by rw [hr, hrd]; simpa using h1) (fun c a w hc => absurd hc (hQp _ _ _)) hy ?_
        exact k4 own' w _ ((hN.done hD m4).sub m3)
      · refine wpAny_all (hr.trans hrd) (by simp) (fun k hk => ?_)
        obtain ⟨S1, p, e1, k1, k2, k3, k4⟩ := go k (by rw [hrd]; exact hk) (List.all_eq_true.1 hchk k hk)
        exact step_ok X k1 hN k3 k4

theorem mapi_id {f : Nat → CS → CS} (hf : ∀ i c, f i c = c) : ∀ (l : List CS) (n : Nat), mapi f n l = l
  | [], _ => rfl
  | c :: r, n => by simp only [mapi, hf, mapi_id hf r]

theorem mapip_id {f : Nat → CS → CS} (hf : ∀ i c, f i c = c) : ∀ (l : List (Bool × List CS)) (n : Nat), mapip f n l = l
  | [], _ => rfl
  | (a, cs) :: r, n => by simp only [mapip, mapi_id hf, mapip_id hf r]

theorem up_nil (z : Nat) : ∀ sh : Sh, ({} : Up).map z sh = sh := by
  have hc : ∀ i c, ({} : Up).cell z i c = c := fun i c => by cases c <;> simp [Up.cell, Up.find, Up.isDst, Up.isTo]
  intro sh
  induction sh with
  | v a cs => simp only [Up.map, mapi_id hc]
  | box a cs => simp only [Up.map, mapi_id hc]
  | el c o => simp only [Up.map, hc]
  | tup ps => simp only [Up.map, mapip_id hc]
  | clo g ds =>
    have : ds.any ({} : Up).hit = false := by simp [List.any_eq_false, Up.hit, Up.isDst]
    simp only [Up.map, this]
  | opt g b sh ih => simp [Up.map, Up.isDst, ih]
  | _ => simp [Up.map, Up.isDst]

theorem Now.drew {S : St} {own : Own} {env : Env} {a : Act} {w : World} (h : Now C T0 w0 own0 cx S own env a w) (n : Nat) : Now C T0 w0 own0 cx S own env a { w with drawn := n } := by
  have hk : Kept own w { w with drawn := n } := ⟨rfl, rfl, rfl, Nat.le_refl _, fun _ _ _ => rfl, fun _ _ _ _ => rfl, fun _ cur _ h => ⟨cur, h, rfl⟩⟩
  have st : Step cx own w env (tvA a) (Up.A {}) (Up.W {}) (Up.d {}) own { w with drawn := n } env (tvA a) :=
    ⟨hk, fun _ _ h => h, fun _ _ _ h => h, fun _ _ h _ => ⟨h, rfl⟩, fun g i hi => h.wok.dom g i hi, h.wok.inj, fun _ _ => rfl, fun _ _ => rfl⟩
  have af : AffOk cx own w {} own { w with drawn := n } :=
    ⟨fun a ha => by simp at ha, fun a ha => by simp at ha, fun a ha => by simp at ha, fun h i hd => by cases hd⟩
  have hrun : ∀ S : St, (∀ p ∈ S, SlotOk w cx own env (tvA a) p.1 p.2) → ∀ p ∈ S, SlotOk { w with drawn := n } cx own env (tvA a) p.1 p.2 := by
    intro S hS p hp
    have := slot_step st af (z := p.1) (by rintro (h | ⟨q, hq, _⟩); cases h; simp at hq) (hS p hp)
    rwa [up_nil] at this
  exact ⟨h.wok.step st, hrun S h.inv, h.size, h.defers, h.pin⟩

theorem region_ok (X : Ctx P C W w0 own0 Φ) (hQp : ∀ c a w, ¬Q (.panic c) a w) {id : Nat} {draw : Bool} {S S' : St} {ps : List PS} {own : Own} {env env' : Env} {a : Act} {w : World}
    (h : (match draw with | false => cSeq C ops (List.range ops.size) S | true => cDraw C ops S) = some (S', ps)) (hN : Now C T0 w0 own0 cx S own env a w) (hp : PRels Φ ps env env')
    (hQ : ∀ own' w' a', Now C T0 w0 own0 cx S' own' env' a' w' → Q .normal a' w') : (Code.region id ops draw).wp P Q a w := by
  cases draw with
  | false => exact wp_region (seq_ok X h hN hp hQ)
  | true =>
    dsimp only at h
    unfold cDraw at h
    split at h
    · cases h
    rename_i Sf ps' hs
    dsimp only at h
    split at h
    · rename_i hc
      simp only [Option.some.injEq, Prod.mk.injEq] at h
      obtain ⟨rfl, rfl⟩ := h
      simp only [Bool.and_eq_true] at hc
      obtain ⟨⟨hsel, h0⟩, htb⟩ := hc
      split at h0
      · rename_i S0 hS0
        refine wp_region_any X.mixed ?_
        have hN' := hN.drew (w.drawn + 1)
        have hlen := cSeq_len hs
        rw [List.length_range] at hlen
        refine draw_go X hQp hsel hlen htb hQ ops.size 0 _ S0 own env a _ ⟨by simp, fun j => ?_⟩ hS0 ⟨hN'.wok, leT_ok h0 hN'.inv, hN'.size, hN'.defers, hN'.pin⟩ (by rw [restP_zero]; exact hp) ?_
        · rw [Nat.zero_testBit]
          by_cases hj : j < ops.size <;> simp [hj]
        · unfold cntD
          exact Nat.le_trans (List.length_filter_le ..) (by simp)
      · cases h0
    · cases h

end

end V
end Go.Proofs.Ytgialjcichiaoaa

/-
Less is said of a state: what nobody speaks of any more is given up.
-/
namespace Go.Proofs.Ytgialjcichiaoaa
namespace V

def cellAt (sh : Sh) (k : Nat) : CS :=
  match sh with
  | .v _ cs => cs.getD k .x
  | .box _ cs => cs.getD k .x
  | _ => .x

/-- A label, when a cell is weakened. -/
def wkC (env : Env) (k : Nat) (i : OI) : CS → CS → Option OI
  | .o _ _, .r => none
  | .o _ _, .b => none
  | .o true f, .o false _ => some { i with bound := match i.bound, i.path with
    | some 0, [] => (match (env i.leaf.1)[k]? with | some (.sl xs) => some (xs.length * f.sz) | _ => none)
    | some 0, _ => none
    | b, _ => b }
  | _, _ => some i

/-- A label, when T is weakened to S. -/
def wkL (T S : St) (env : Env) (i : OI) : Option OI :=
  match i.leaf.2 with
  | 0 => some i
  | k + 1 => wkC env k i (cellAt (look T i.leaf.1) k) (cellAt (look S i.leaf.1) k)

def wkO (T S : St) (env : Env) (own : Own) : Own := fun g => (own g).bind (wkL T S env)

section
variable {C : Cfg} {T0 : Nat → Value} {w0 : World} {own0 : Own} {cx : Cx} {own : Own} {env : Env} {a : Act} {w : World} {T S : St}

theorem wkL_some {i j : OI} (h : wkL T S env i = some j) : j.leaf = i.leaf ∧ j.path = i.path ∧ (j.bound = i.bound ∨ i.bound = some 0) := by
  unfold wkL at h
  split at h
  · simp only [Option.some.injEq] at h
    subst h
    exact ⟨rfl, rfl, .inl rfl⟩
  · unfold wkC at h
    split at h
    · cases h
    · cases h
    · simp only [Option.some.injEq] at h
      subst h
      refine ⟨rfl, rfl, ?_⟩
      dsimp only
      split
      · rename_i hb _; exact .inr hb
      · rename_i hb _; exact .inr hb
      · exact .inl rfl
    · simp only [Option.some.injEq] at h
      subst h
      exact ⟨rfl, rfl, .inl rfl⟩

theorem wkO_some {g : Nat} {j : OI} (h : wkO T S env own g = some j) : ∃ i, own g = some i ∧ wkL T S env i = some j := by
  unfold wkO at h
  cases ho : own g with
  | none => rw [ho] at h; cases h
  | some i => rw [ho] at h; exact ⟨i, rfl, h⟩

theorem wkO_none {g : Nat} (h : own g = none) : wkO T S env own g = none := by unfold wkO; rw [h]; rfl

theorem wkO_eq {g : Nat} {i : OI} (h : own g = some i) : wkO T S env own g = wkL T S env i := by unfold wkO; rw [h]; rfl

theorem wk_claimed {g o : Nat} (h : claimed (wkO T S env own) g o) : claimed own g o := by
  obtain ⟨j, b, h1, h2, h3⟩ := h
  obtain ⟨i, h4, h5⟩ := wkO_some h1
  obtain ⟨_, _, h6 | h6⟩ := wkL_some h5
  · exact ⟨i, b, h4, by rw [← h6]; exact h2, h3⟩
  · exact ⟨i, 0, h4, h6, Nat.zero_le _⟩

end

theorem leCs_get : ∀ {cs ws : List CS}, leCs cs ws = true → ws.length = cs.length ∧ ∀ (k : Nat) (c c' : CS), cs[k]? = some c → ws[k]? = some c' → leC c c' = true
  | [], [], _ => ⟨rfl, fun k c c' h => by simp at h⟩
  | [], _ :: _, h => by cases h
  | _ :: _, [], h => by cases h
  | c :: r, w :: ws, h => by
    simp only [leCs, Bool.and_eq_true] at h
    obtain ⟨h1, h2⟩ := leCs_get h.2
    refine ⟨by simp [h1], fun k c1 c2 hc hw => ?_⟩
    cases k with
    | zero =>
      simp only [List.getElem?_cons_zero, Option.some.injEq] at hc hw
      rw [← hc, ← hw]; exact h.1
    | succ k => exact h2 k c1 c2 (by simpa using hc) (by simpa using hw)

theorem leSs_get {T S0 : St} : ∀ {S : St}, leSs T S0 S = true → ∀ p ∈ S, leSh (look T p.1) p.2 = true ∧ look S0 p.1 = p.2
  | [], _, p, hp => by simp at hp
  | (z, sh) :: r, h, p, hp => by
    simp only [leSs, Bool.and_eq_true] at h
    rcases List.mem_cons.1 hp with rfl | hp
    · exact ⟨h.1.1, shE_ok h.1.2⟩
    · exact leSs_get h.2 p hp

section
variable {C : Cfg} {T0 : Nat → Value} {w0 : World} {own0 : Own} {cx : Cx} {own : Own} {env : Env} {a : Act} {w : World} {T S : St}

theorem wk_rs {d : D} {v : Value} (h : Rep w (RS cx own) d v) : Rep w (RS cx (wkO T S env own)) d v := h.sub fun g o hs => ⟨wkO_none hs.1, hs.2⟩

theorem wk_bs {d : D} {v : Value} (h : Rep w (BS cx own) d v) : Rep w (BS cx (wkO T S env own)) d v := h.sub fun g o hs => ⟨fun hc => hs.1 (wk_claimed hc), hs.2⟩

theorem wk_same {lf : Leaf} {m : Bool} {f : Fz} {d : D} {v : Value} (hl : ∀ i : OI, i.leaf = lf → wkL T S env i = some i) (h : OwnRep w cx own lf m f d v) : OwnRep w cx (wkO T S env own) lf m f d v := by
  cases h with
  | nil => exact .nil
  | sl xs g cap cur Ty fr vs h1 h2 h3 h4 h5 h6 h7 h8 h9 h10 =>
    refine .sl xs g cap cur Ty fr vs h1 (by rw [wkO_eq h2]; exact hl _ rfl) h3 h4 h5 h6 h7 h8 h9 (fun i x j d hx hj => ?_)
    have h11 := h10 i x j d hx hj
    obtain ⟨sz, u⟩ := f
    cases u with
    | false => exact wk_rs h11
    | true => exact InRep.keep h11 (fun g i hi hle => ⟨by rw [wkO_eq hi, hl i hle, ← hle], rfl⟩)

theorem wk_drop (hdom : ∀ g i, own g = some i → cx.N g) {lf : Leaf} {m : Bool} {f : Fz} {d : D} {v : Value} (hl : ∀ i : OI, i.leaf = lf → wkL T S env i = none) (h : OwnRep w cx own lf m f d v) : Rep w (RS cx (wkO T S env own)) d v :=
  h.frozen (fun g i hi hle => ⟨by rw [wkO_eq hi]; exact hl i hle, hdom g i hi⟩) (fun g hg => wkO_none hg)

/-- One cell of slot z. -/
theorem wk_cell (hN : ∀ g i, own g = some i → cx.N g) (h12 : ∀ g o, cx.S1 g o → cx.S2 g o) {z k : Nat} {c c' : CS} {d : D} {v : Value} (hT : cellAt (look T z) k = c) (hS : cellAt (look S z) k = c') (he : (env z)[k]? = some d) (hle : leC c c' = true) (h : CellOk w cx own z k c d v) :
    CellOk w cx (wkO T S env own) z k c' d v := by
  refine ⟨h.1, ?_⟩
  have h2 := h.2
  have hwk : ∀ i : OI, i.leaf = (z, k + 1) → wkL T S env i = wkC env k i c c' := by
    intro i hi
    unfold wkL
    have e2 : i.leaf.2 = k + 1 := by rw [hi]
    have e1 : i.leaf.1 = z := by rw [hi]
    rw [e2]
    dsimp only
    rw [e1, hT, hS]
  cases c' with
  | x => trivial
  | n => cases c <;> simp [leC] at hle; exact h2
  | s => cases c <;> simp [leC] at hle; exact h2
  | al _ _ _ _ => cases c <;> simp [leC] at hle
  | r =>
    cases c <;> simp [leC] at hle
    · obtain ⟨e1, e2⟩ := h2; rw [e1, e2]; exact .nil _ _
    · exact wk_rs h2
    · exact wk_drop hN (fun i hi => hwk i hi) h2
  | b =>
    have hrs : ∀ {g o}, RS cx (wkO T S env own) g o → BS cx (wkO T S env own) g o := rs_bs h12
    cases c <;> simp [leC] at hle
    · obtain ⟨e1, e2⟩ := h2; rw [e1, e2]; exact .nil _ _
    · exact Rep.sub (wk_rs h2) (fun g o => hrs)
    · exact wk_bs h2
    · exact Rep.sub (wk_drop hN (fun i hi => hwk i hi) h2) (fun g o => hrs)
  | o m' f' =>
    cases c with
    | n => obtain ⟨e1, e2⟩ := h2; rw [e1, e2]; exact .nil
    | o m f =>
      simp only [leC, Bool.and_eq_true, Bool.or_eq_true, Bool.not_eq_true', fEq_iff] at hle
      obtain ⟨hm, rfl⟩ := hle
      cases m with
      | false =>
        have : m' = false := by simpa using hm
        subst this
        exact wk_same (fun i hi => hwk i hi) h2
      | true =>
        cases m' with
        | true => exact wk_same (fun i hi => hwk i hi) h2
        | false =>
          cases h2 with
          | nil => exact .nil
          | sl xs g cap cur Ty fr vs h1 h2 h3 h4 h5 h6 h7 h8 h9 h10 =>
            refine .sl xs g cap cur Ty fr vs h1 ?_ h3 h4 h5 h6 h7 h8 h9 (fun i x j d hx hj => ?_)
            · rw [wkO_eq h2, hwk _ rfl]
              simp only [wkC, he, if_true, Bool.false_eq_true, if_false]
            · have h11 := h10 i x j d hx hj
              obtain ⟨sz, u⟩ := f
              cases u with
              | false => exact wk_rs h11
              | true =>
                refine InRep.map h11 [] (by simp) (fun g i hi hle hne hb => ⟨?_, rfl⟩)
                rw [wkO_eq hi, hwk i hle]
                simp only [if_true] at hb
                obtain ⟨lf, pa, bo⟩ := i
                dsimp only at hb hle hne ⊢
                subst hb; subst hle
                cases pa with
                | nil => exact absurd rfl hne
                | cons p r => rfl
    | _ => simp [leC] at hle

theorem cells_get {cs ws : List CS} (hle : leCs cs ws = true) {ds : List D} {z : Nat} (hds : ds = env z) {ag : Bool} (hN : ∀ g i, own g = some i → cx.N g) (h12 : ∀ g o, cx.S1 g o → cx.S2 g o) (hT : ∀ k, cellAt (look T z) k = cs.getD k .x) (hS : ∀ k, cellAt (look S z) k = ws.getD k .x) {vs : List Value}
    (h : All3 (CellOk w cx own z) cs ds vs) : All3 (CellOk w cx (wkO T S env own) z) ws ds vs := by
  obtain ⟨k1, k2⟩ := leCs_get hle
  refine ⟨k1.trans h.1, h.2.1, fun k c x v hc hx hv => ?_⟩
  have hk : k < cs.length := by rw [h.1]; exact (List.getElem?_eq_some_iff.1 hx).1
  have hck : cs[k]? = some cs[k] := List.getElem?_eq_getElem hk
  refine wk_cell hN h12 (c := cs[k]) ?_ ?_ (by rw [← hds]; exact hx) (k2 k _ c hck hc) (h.2.2 k _ x v hck hx hv)
  · rw [hT k, List.getD_eq_getElem?_getD, hck]; rfl
  · rw [hS k, List.getD_eq_getElem?_getD, hc]; rfl

theorem weak_ok (hle : leS T S = true) (hN : Now C T0 w0 own0 cx T own env a w) : ∃ own', Now C T0 w0 own0 cx S own' env a w := by
  have hw := hN.wok
  have hNN : ∀ g i, own g = some i → cx.N g := fun g i h => (hw.dom g i h).2
  refine ⟨wkO T S env own, ⟨hw.kept, fun g j hj => ?_, hw.n, hw.s1, hw.s2, fun g o hg hc => hw.cl g o hg (wk_claimed hc), fun g g' i j hi hj hl hp => ?_⟩, fun p hp => ?_, hN.size, hN.defers, hN.pin⟩
  · obtain ⟨i, h1, _⟩ := wkO_some hj
    exact hw.dom g i h1
  · obtain ⟨i0, h1, h2⟩ := wkO_some hi
    obtain ⟨j0, h3, h4⟩ := wkO_some hj
    obtain ⟨a1, a2, _⟩ := wkL_some h2
    obtain ⟨b1, b2, _⟩ := wkL_some h4
    exact hw.inj g g' i0 j0 h1 h3 (by rw [← a1, ← b1]; exact hl) (by rw [← a2, ← b2]; exact hp)
  · obtain ⟨z, sh⟩ := p
    obtain ⟨h1, h2⟩ := leSs_get hle _ hp
    have hz := hN.inv.look z
    dsimp only at h1 h2 ⊢
    generalize hT : look T z = shT at h1 hz
    cases sh with
    | dead => trivial
    | v ag ws =>
      cases shT <;> simp only [leSh, Bool.false_eq_true] at h1
      rename_i ag' cs
      simp only [Bool.and_eq_true, bEq_iff] at h1
      obtain ⟨rfl, h1⟩ := h1
      obtain ⟨vs, q1, q2, q3⟩ := hz
      exact ⟨vs, q1, q2, cells_get (ag := ag') h1 rfl hNN hw.s1 (fun k => by rw [hT]; rfl) (fun k => by rw [h2]; rfl) q3⟩
    | box ro ws =>
      cases shT <;> simp only [leSh, Bool.false_eq_true] at h1
      rename_i ro' cs
      simp only [Bool.and_eq_true, bEq_iff] at h1
      obtain ⟨rfl, h1⟩ := h1
      obtain ⟨g, cur, Ty, q1, q2, q3, q4⟩ := hz
      refine ⟨g, cur, Ty, q1, q2, cells_get (ag := ro') h1 rfl hNN hw.s1 (fun k => by rw [hT]; rfl) (fun k => by rw [h2]; rfl) q3, ?_⟩
      cases ro' with
      | true =>
        simp only [if_true] at q4 ⊢
        refine ⟨wkO_none q4.1, q4.2.1, fun c hc => ?_⟩
        obtain ⟨k1, k2⟩ := leCs_get h1
        obtain ⟨k, hk⟩ := List.getElem?_of_mem hc
        have hkl : k < cs.length := by rw [← k1]; exact (List.getElem?_eq_some_iff.1 hk).1
        have hck : cs[k]? = some cs[k] := List.getElem?_eq_getElem hkl
        have hle := k2 k _ c hck hk
        rcases q4.2.2 cs[k] (List.getElem_mem hkl) with e | e | e <;> rw [e] at hle <;> cases c <;> simp_all [leC]
      | false =>
        simp only [Bool.false_eq_true, if_false] at q4 ⊢
        rw [wkO_eq q4]
        rfl
    | pt b off =>
      cases shT <;> simp only [leSh, Bool.false_eq_true] at h1
      simp only [Bool.and_eq_true, nbeq] at h1
      obtain ⟨rfl, rfl⟩ := h1
      exact hz
    | clo g ds =>
      cases shT <;> simp only [leSh, Bool.false_eq_true] at h1
      simp only [Bool.and_eq_true, nbeq] at h1
      obtain ⟨rfl, h1⟩ := h1
      have := nsE_ok h1
      subst this
      obtain ⟨fs, cs, q1, q2⟩ := hz
      refine ⟨fs, cs, q1, Rep.sub q2 (fun g o hs => ?_)⟩
      rcases hs with hs | ⟨i, hi, hd⟩
      · exact .inl ⟨fun hc => hs.1 (wk_claimed hc), hs.2⟩
      · cases hwk : wkL T S env i with
        | none => exact .inl ⟨not_claimed_of_none (by rw [wkO_eq hi]; exact hwk), .inr (hNN g i hi)⟩
        | some j =>
          obtain ⟨e1, _⟩ := wkL_some hwk
          exact .inr ⟨j, by rw [wkO_eq hi]; exact hwk, by rw [e1]; exact hd⟩
    | _ => cases shT <;> simp [leSh] at h1

end

end V
end Go.Proofs.Ytgialjcichiaoaa

/-
Code does what its statement says.
-/
namespace Go.Proofs.Ytgialjcichiaoaa
namespace V

section
variable {P : Program} {C : Cfg} {W : Wld} {T0 : Nat → Value} {w0 : World} {own0 : Own} {cx : Cx} {Φ : Ask} {F : Fin}

theorem normC_ok {own : Own} {w : World} (hN : ∀ g i, own g = some i → cx.N g) (h12 : ∀ g o, cx.S1 g o → cx.S2 g o) {s i : Nat} {c : CS} {d : D} {v : Value} (h : CellOk w cx own s i c d v) : CellOk w cx own s i (normC c) d v := by
  refine ⟨h.1, ?_⟩
  have h2 := h.2
  cases c with
  | al hh k m f =>
    cases m with
    | true => trivial
    | false => exact OwnRep.borrow (f := f) h2 hN h12
  | _ => exact h2

theorem All3.map' {Q : Nat → CS → D → Value → Prop} {f : CS → CS} {cs : List CS} {ds : List D} {vs : List Value} (h : All3 Q cs ds vs) (hf : ∀ i c d v, Q i c d v → Q i (f c) d v) : All3 Q (cs.map f) ds vs := by
  refine ⟨by rw [List.length_map]; exact h.1, h.2.1, fun i c d v hc hd hv => ?_⟩
  rw [List.getElem?_map] at hc
  cases hci : cs[i]? with
  | none => rw [hci] at hc; cases hc
  | some c0 =>
    rw [hci] at hc
    simp only [Option.map_some, Option.some.injEq] at hc
    rw [← hc]
    exact hf i c0 d v (h.2.2 i c0 d v hci hd hv)

theorem normSh_ok {own : Own} {w : World} {env : Env} {tv : Nat → Value} (hN : ∀ g i, own g = some i → cx.N g) (h12 : ∀ g o, cx.S1 g o → cx.S2 g o) {z : Nat} {sh : Sh} (h : SlotOk w cx own env tv z sh) : SlotOk w cx own env tv z (normSh sh) := by
  cases sh with
  | v ag cs =>
    obtain ⟨vs, h1, h2, h3⟩ := h
    exact ⟨vs, h1, h2, h3.map' fun i c d v h => normC_ok hN h12 h⟩
  | box ro cs =>
    obtain ⟨g, cur, T, h1, h2, h3, h4⟩ := h
    refine ⟨g, cur, T, h1, h2, h3.map' fun i c d v h => normC_ok hN h12 h, ?_⟩
    cases ro with
    | false => exact h4
    | true =>
      simp only [if_true] at h4 ⊢
      refine ⟨h4.1, h4.2.1, fun c hc => ?_⟩
      obtain ⟨c0, hc0, rfl⟩ := List.mem_map.1 hc
      rcases h4.2.2 c0 hc0 with e | e | e <;> rw [e] <;> simp [normC]
  | pt b off => exact h
  | clo g ds => exact h
  | dead => trivial
  | el _ _ => trivial
  | bx _ _ _ => trivial
  | tup _ => trivial
  | opt _ _ _ => trivial

theorem normS_mem {k : List Bool} : ∀ {S : St} {p : Nat × Sh}, p ∈ normS k S → ∃ sh, (p.1, sh) ∈ S ∧ p.2 = normSh sh
  | [], p, h => by simp [normS] at h
  | (z, sh) :: r, p, h => by
    simp only [normS] at h
    split at h
    · rcases List.mem_cons.1 h with rfl | h
      · exact ⟨sh, List.mem_cons_self .., rfl⟩
      · obtain ⟨sh', h1, h2⟩ := normS_mem h
        exact ⟨sh', List.mem_cons_of_mem _ h1, h2⟩
    · obtain ⟨sh', h1, h2⟩ := normS_mem h
      exact ⟨sh', List.mem_cons_of_mem _ h1, h2⟩

theorem Now.norm {S : St} {own : Own} {env : Env} {a : Act} {w : World} (h : Now C T0 w0 own0 cx S own env a w) (k : List Bool) : Now C T0 w0 own0 cx (normS k S) own env a w :=
  ⟨h.wok, fun p hp => by
    obtain ⟨sh, h1, h2⟩ := normS_mem hp
    rw [h2]
    exact normSh_ok (fun g i hi => (h.wok.dom g i hi).2) h.wok.s1 (h.inv _ h1), h.size, h.defers, h.pin⟩

/-- Whatever holds of one state, with less said holds of another. -/
def Wk (C : Cfg) (T0 : Nat → Value) (w0 : World) (own0 : Own) (cx : Cx) (X J : St) : Prop := ∀ own env a w, Now C T0 w0 own0 cx X own env a w → ∃ own', Now C T0 w0 own0 cx J own' env a w

theorem Wk.refl (X : St) : Wk C T0 w0 own0 cx X X := fun own _ _ _ h => ⟨own, h⟩
theorem Wk.trans {X Y Z : St} (h : Wk C T0 w0 own0 cx X Y) (h' : Wk C T0 w0 own0 cx Y Z) : Wk C T0 w0 own0 cx X Z := fun own env a w hx => by
  obtain ⟨o1, h1⟩ := h own env a w hx
  exact h' o1 env a w h1
theorem Wk.le {X Y : St} (h : leS X Y = true) : Wk C T0 w0 own0 cx X Y := fun _ _ _ _ hx => weak_ok h hx

theorem join2_ok {S T J : St} (h : join2 S T = some J) : Wk C T0 w0 own0 cx S J ∧ Wk C T0 w0 own0 cx T J := by
  unfold join2 at h
  rw [fSt_eq] at h
  split at h
  · rename_i hc
    simp only [Bool.and_eq_true] at hc
    simp only [Option.some.injEq] at h
    rw [← h]
    exact ⟨.le hc.1, .le hc.2⟩
  · cases h

theorem joinO_ok {s t o : Option St} (h : joinO s t = some o) : (∀ S, s = some S → ∃ J, o = some J ∧ Wk C T0 w0 own0 cx S J) ∧ (∀ T, t = some T → ∃ J, o = some J ∧ Wk C T0 w0 own0 cx T J) := by
  unfold joinO at h
  split at h
  · simp only [Option.some.injEq] at h
    subst h
    exact ⟨fun S e => (by cases e), fun T e => ⟨T, e, .refl T⟩⟩
  · simp only [Option.some.injEq] at h
    subst h
    exact ⟨fun S e => ⟨S, e, .refl S⟩, fun T e => (by cases e)⟩
  · rename_i S T
    split at h
    · rename_i J hJ
      simp only [Option.some.injEq] at h
      subst h
      obtain ⟨h1, h2⟩ := join2_ok (C := C) (T0 := T0) (w0 := w0) (own0 := own0) (cx := cx) hJ
      exact ⟨fun S' e => (by cases e; exact ⟨J, rfl, h1⟩), fun T' e => (by cases e; exact ⟨J, rfl, h2⟩)⟩
    · cases h

theorem joinAll_ok : ∀ {l : List St} {s o : Option St}, joinAll l s = some o → (∀ S, s = some S → ∃ J, o = some J ∧ Wk C T0 w0 own0 cx S J) ∧ (∀ T ∈ l, ∃ J, o = some J ∧ Wk C T0 w0 own0 cx T J)
  | [], s, o, h => by
    simp only [joinAll, Option.some.injEq] at h
    subst h
    exact ⟨fun S e => ⟨S, e, .refl S⟩, fun T hT => by simp at hT⟩
  | X :: r, s, o, h => by
    simp only [joinAll] at h
    split at h
    · rename_i o' ho
      obtain ⟨a1, a2⟩ := joinO_ok (C := C) (T0 := T0) (w0 := w0) (own0 := own0) (cx := cx) ho
      obtain ⟨b1, b2⟩ := joinAll_ok h
      refine ⟨fun S e => ?_, fun T hT => ?_⟩
      · obtain ⟨J, h1, h2⟩ := a1 S e
        obtain ⟨J', h3, h4⟩ := b1 J h1
        exact ⟨J', h3, h2.trans h4⟩
      · rcases List.mem_cons.1 hT with rfl | hT
        · obtain ⟨J, h1, h2⟩ := a2 T rfl
          obtain ⟨J', h3, h4⟩ := b1 J h1
          exact ⟨J', h3, h2.trans h4⟩
        · exact b2 T hT
    · cases h

theorem exIn_mem {id : Nat} : ∀ {l : List (Nat × St)} {S : St}, (id, S) ∈ l → S ∈ exIn id l
  | [], S, h => by simp at h
  | (k, T) :: r, S, h => by
    simp only [exIn]
    rcases List.mem_cons.1 h with h | h
    · simp only [Prod.mk.injEq] at h
      rw [show Nat.beq k id = true from nbeq.2 h.1.symm, h.2]
      exact List.mem_cons_self ..
    · cases hb : Nat.beq k id with
      | true => exact List.mem_cons_of_mem _ (exIn_mem h)
      | false => exact exIn_mem h

theorem exOut_mem {id j : Nat} (hj : j ≠ id) : ∀ {l : List (Nat × St)} {S : St}, (j, S) ∈ l → (j, S) ∈ exOut id l
  | [], S, h => by simp at h
  | (k, T) :: r, S, h => by
    simp only [exOut]
    rcases List.mem_cons.1 h with h | h
    · simp only [Prod.mk.injEq] at h
      have : Nat.beq k id = false := by
        cases hb : Nat.beq k id with
        | false => rfl
        | true => exact absurd (h.1.trans (nbeq.1 hb)) hj
      rw [this, h.1, h.2]
      exact List.mem_cons_self ..
    · cases hb : Nat.beq k id with
      | true => exact exOut_mem hj h
      | false => exact List.mem_cons_of_mem _ (exOut_mem hj h)

/-- What holds where code ends. -/
def Post (C : Cfg) (F : Fin) (T0 : Nat → Value) (w0 : World) (own0 : Own) (cx : Cx) (out : Option St) (ex : List (Nat × St)) (Q : PX → Env → Prop) : Exit → Act → World → Prop
  | .normal, a, w => ∃ T own env, out = some T ∧ Now C T0 w0 own0 cx T own env a w ∧ Q .normal env
  | .exit id, a, w => ∃ T own env, (id, T) ∈ ex ∧ Now C T0 w0 own0 cx T own env a w ∧ Q (.exit id) env
  | .ret, a, w => ∃ S l R own env, retSt C F S = some (l, R) ∧ Now C T0 w0 own0 cx R own env a w ∧ Q (.ret (l.map env)) env
  | _, _, _ => False

theorem Post.mono {out out' : Option St} {ex ex' : List (Nat × St)} {Q Q' : PX → Env → Prop} (h1 : ∀ T, out = some T → ∃ J, out' = some J ∧ Wk C T0 w0 own0 cx T J) (h2 : ∀ p ∈ ex, p ∈ ex') (hq : ∀ x e, Q x e → Q' x e) {e : Exit} {a : Act} {w : World}
    (h : Post C F T0 w0 own0 cx out ex Q e a w) : Post C F T0 w0 own0 cx out' ex' Q' e a w := by
  cases e with
  | normal =>
    obtain ⟨T, own, env, q1, q2, q3⟩ := h
    obtain ⟨J, h3, h4⟩ := h1 T q1
    obtain ⟨own', h5⟩ := h4 own env a w q2
    exact ⟨J, own', env, h3, h5, hq _ _ q3⟩
  | exit id =>
    obtain ⟨T, own, env, q1, q2, q3⟩ := h
    exact ⟨T, own, env, h2 _ q1, q2, hq _ _ q3⟩
  | ret =>
    obtain ⟨S, l, R, own, env, q1, q2, q3⟩ := h
    exact ⟨S, l, R, own, env, q1, q2, hq _ _ q3⟩
  | _ => exact h

theorem exists_least {p : Nat → Prop} : ∀ {n : Nat}, p n → ∃ m, p m ∧ ∀ k, p k → m ≤ k := by
  intro n
  induction n using Nat.strongRecOn with
  | _ n ih =>
    intro hn
    rcases Classical.em (∃ k, k < n ∧ p k) with ⟨k, hk, hp⟩ | hno
    · exact ih k hk hp
    · exact ⟨n, hn, fun k hk => by
        rcases Nat.lt_or_ge k n with h | h
        · exact absurd ⟨k, h, hk⟩ hno
        · exact h⟩

/-- The rounds of a loop. -/
def rounds (Φ : Ask) (a : PC) (Q : PX → Env → Prop) (n : Nat) : Env → Prop :=
  Nat.rec (motive := fun _ => Env → Prop) (fun _ => False) (fun _ ih e => pwp Φ a (PX.then ih Q) e) n

theorem iter_ok {f : St → Option Res} : ∀ {n : Nat} {S S' : St} {r : Res}, iter f n S = some (r, S') → Wk C T0 w0 own0 cx S S' ∧ f S' = some r ∧ ∀ T, r.out = some T → Wk C T0 w0 own0 cx T S'
  | 0, S, S', r, h => by cases h
  | n + 1, S, S', r, h => by
    simp only [iter] at h
    split at h
    · cases h
    rename_i r0 hf
    split at h
    · rename_i ho
      simp only [Option.some.injEq, Prod.mk.injEq] at h
      obtain ⟨rfl, rfl⟩ := h
      exact ⟨.refl _, hf, fun T e => by rw [ho] at e; cases e⟩
    · rename_i T ho
      split at h
      · rename_i hle
        simp only [Option.some.injEq, Prod.mk.injEq] at h
        obtain ⟨rfl, rfl⟩ := h
        refine ⟨.refl _, hf, fun T' e => ?_⟩
        rw [ho] at e
        simp only [Option.some.injEq] at e
        rw [← e]
        exact .le hle
      · rw [fSt_eq] at h
        split at h
        · rename_i hle
          obtain ⟨h1, h2, h3⟩ := iter_ok h
          exact ⟨(Wk.le hle).trans h1, h2, h3⟩
        · cases h

theorem preS_ok {id : Nat} {S S0 : St} (h : preS C id S = some S0) : Wk C T0 w0 own0 cx S S0 := by
  unfold preS at h
  split at h
  · simp only [Option.some.injEq] at h
    rw [← h]; exact .refl S
  · rw [fSt_eq] at h
    split at h
    · rename_i hle
      simp only [Option.some.injEq] at h
      rw [← h]; exact .le hle
    · cases h

theorem code_ok (X : Ctx P C W w0 own0 Φ) : ∀ {c : Code} {S : St} {r : Res}, cCode C F c S = some r → ∀ {Q : PX → Env → Prop} {own : Own} {env : Env} {a : Act} {w : World}, Now C T0 w0 own0 cx S own env a w → pwp Φ r.pc Q env → c.wp P (Post C F T0 w0 own0 cx r.out r.ex Q) a w := by
  intro c
  induction c with
  | skip =>
    intro S r h Q own env a w hN hp
    simp only [cCode, Option.some.injEq] at h
    subst h
    exact wp_skip ⟨S, own, env, rfl, hN, hp⟩
  | region id ops draw =>
    intro S r h Q own env a w hN hp
    simp only [cCode] at h
    split at h
    · simp only [Option.some.injEq] at h
      subst h
      exact hp.elim
    split at h
    · rename_i S0 hpre
      obtain ⟨own0', hN⟩ := preS_ok hpre own env a w hN
      split at h
      · rename_i S' ps hc
        rw [fSt_eq] at h
        simp only [Option.some.injEq] at h
        subst h
        unfold cRegion at hc
        split at hc
        · rename_i S1 ps1 hs
          simp only [Option.some.injEq, Prod.mk.injEq] at hc
          obtain ⟨rfl, rfl⟩ := hc
          obtain ⟨e1, h1, h2⟩ := hp
          refine region_ok X (fun c a w h => h) hs hN h1 (fun own' w' a' hN' => ?_)
          exact ⟨_, own', e1, rfl, (hN'.norm C.keep).sub (fun p hp => cl_sub _ hp), h2⟩
        · cases hc
      · cases h
    · cases h
  | seq x y ihx ihy =>
    intro S r h Q own env a w hN hp
    simp only [cCode] at h
    split at h
    · cases h
    rename_i ra ha
    split at h
    · rename_i ho
      simp only [Option.some.injEq] at h
      subst h
      refine wp_seq (wp_mono (ihx ha hN hp) (fun e a w h => ?_))
      cases e with
      | normal =>
        obtain ⟨T, _, _, q1, _⟩ := h
        rw [ho] at q1; cases q1
      | _ => exact h
    · rename_i T ho
      split at h
      · cases h
      rename_i rb hb
      simp only [Option.some.injEq] at h
      subst h
      refine wp_seq (wp_mono (ihx ha hN hp) (fun e a w h => ?_))
      cases e with
      | normal =>
        obtain ⟨T', own', env', q1, q2, q3⟩ := h
        rw [ho] at q1
        simp only [Option.some.injEq] at q1
        subst q1
        exact wp_mono (ihy hb q2 q3) (fun e a w h => Post.mono (fun T e => ⟨T, e, .refl T⟩) (fun p hp => List.mem_append_right _ hp) (fun _ _ h => h) h)
      | exit id =>
        obtain ⟨T', own', env', q1, q2, q3⟩ := h
        exact ⟨T', own', env', List.mem_append_left _ q1, q2, q3⟩
      | ret => exact h
      | _ => exact h
  | cond c x y ihx ihy =>
    intro S r h Q own env a w hN hp
    simp only [cCode] at h
    split at h
    · cases h
    rename_i hs
    simp only [Bool.not_eq_true', Bool.not_eq_false] at hs
    split at h
    · rename_i ra rb ha hb
      split at h
      · rename_i o ho
        simp only [Option.some.injEq] at h
        subst h
        obtain ⟨k1, k2⟩ := joinO_ok (C := C) (T0 := T0) (w0 := w0) (own0 := own0) (cx := cx) ho
        obtain ⟨d, v, h1, h2, h3⟩ := opS (g := none) hN.inv.look (fun gs b e => by cases e) hs
        simp only [pwp, h2] at hp
        rcases hp with ⟨e1, hp⟩ | ⟨e1, hp⟩
        · simp only [List.cons.injEq, and_true] at e1
          subst e1
          have := h3.bool'
          subst this
          exact wp_cond_true h1 (wp_mono (ihx ha hN hp) (fun e a w h => Post.mono k1 (fun p hp => List.mem_append_left _ hp) (fun _ _ h => h) h))
        · simp only [List.cons.injEq, and_true] at e1
          subst e1
          have := h3.bool'
          subst this
          exact wp_cond_false h1 (wp_mono (ihy hb hN hp) (fun e a w h => Post.mono k2 (fun p hp => List.mem_append_right _ hp) (fun _ _ h => h) h))
      · cases h
    · cases h
  | block id x ih =>
    intro S r h Q own env a w hN hp
    simp only [cCode] at h
    split at h
    · cases h
    rename_i ra ha
    split at h
    · rename_i o ho
      simp only [Option.some.injEq] at h
      subst h
      obtain ⟨k1, k2⟩ := joinAll_ok (C := C) (T0 := T0) (w0 := w0) (own0 := own0) (cx := cx) ho
      refine wp_block (wp_mono (ih ha hN hp) (fun e a w h => ?_))
      cases e with
      | normal =>
        obtain ⟨T, own', env', q1, q2, q3⟩ := h
        obtain ⟨J, h3, h4⟩ := k1 T q1
        obtain ⟨own2, h5⟩ := h4 own' env' a w q2
        exact ⟨J, own2, env', h3, h5, q3⟩
      | exit j =>
        obtain ⟨T, own', env', q1, q2, q3⟩ := h
        simp only [Exit.inBlock]
        simp only [PX.inBlock] at q3
        by_cases hj : j = id
        · subst hj
          rw [if_pos rfl] at q3 ⊢
          obtain ⟨J, h3, h4⟩ := k2 T (exIn_mem q1)
          obtain ⟨own2, h5⟩ := h4 own' env' a w q2
          exact ⟨J, own2, env', h3, h5, q3⟩
        · rw [if_neg hj] at q3 ⊢
          exact ⟨T, own', env', exOut_mem hj q1, q2, q3⟩
      | ret =>
        obtain ⟨S', l, R, own', env', q1, q2, q3⟩ := h
        exact ⟨S', l, R, own', env', q1, q2, q3⟩
      | _ => exact h
    · cases h
  | loop x ih =>
    intro S r h Q own env a w hN hp
    simp only [cCode] at h
    split at h
    · rename_i ra S' hi
      simp only [Option.some.injEq] at h
      subst h
      obtain ⟨k1, k2, k3⟩ := iter_ok (C := C) (T0 := T0) (w0 := w0) (own0 := own0) (cx := cx) hi
      obtain ⟨own1, hN1⟩ := k1 own env a w hN
      obtain ⟨n, hn⟩ := hp
      have hn' : rounds Φ ra.pc Q n env := hn
      let R : Act → World → Nat → Prop := fun a w m => ∃ own env, Now C T0 w0 own0 cx S' own env a w ∧ rounds Φ ra.pc Q m env
      let μ : Act → World → Nat := fun a w => open Classical in if h : ∃ m, R a w m then Classical.choose (exists_least h.choose_spec) else 0
      have hμ : ∀ {a w m}, R a w m → R a w (μ a w) ∧ μ a w ≤ m := by
        intro a w m hm
        have hex : ∃ m, R a w m := ⟨m, hm⟩
        have hs := Classical.choose_spec (exists_least hex.choose_spec)
        have : μ a w = Classical.choose (exists_least hex.choose_spec) := by
          show (open Classical in if h : ∃ m, R a w m then Classical.choose (exists_least h.choose_spec) else 0) = _
          rw [dif_pos hex]
        rw [this]
        exact ⟨hs.1, hs.2 m hm⟩
      refine wp_loop (fun a w => ∃ m, R a w m) μ ⟨n, own1, env, hN1, hn'⟩ (fun a w hI => ?_)
      obtain ⟨m0, hm0⟩ := hI
      obtain ⟨⟨own2, env2, hN2, hr⟩, _⟩ := hμ hm0
      generalize hm : μ a w = m at hr
      cases m with
      | zero => exact hr.elim
      | succ m =>
        have hr' : pwp Φ ra.pc (PX.then (rounds Φ ra.pc Q m) Q) env2 := hr
        refine wp_mono (ih k2 hN2 hr') (fun e a' w' h => ?_)
        cases e with
        | normal =>
          obtain ⟨T, own3, env3, q1, q2, q3⟩ := h
          obtain ⟨own4, hN4⟩ := k3 T q1 own3 env3 a' w' q2
          have hR : R a' w' m := ⟨own4, env3, hN4, q3⟩
          have := (hμ hR).2
          exact ⟨⟨m, hR⟩, by omega⟩
        | exit id => exact h
        | ret => exact h
        | _ => exact h
    · cases h
  | exit id =>
    intro S r h Q own env a w hN hp
    simp only [cCode, Option.some.injEq] at h
    subst h
    exact wp_exit ⟨S, own, env, List.mem_singleton.2 rfl, hN, hp⟩
  | ret =>
    intro S r h Q own env a w hN hp
    simp only [cCode] at h
    split at h
    · rename_i l R hr
      simp only [Option.some.injEq] at h
      subst h
      have hle : leS S R = true := by
        unfold retSt at hr
        split at hr
        · dsimp only at hr
          split at hr
          · rename_i hc
            simp only [Bool.and_eq_true] at hc
            simp only [Option.some.injEq, Prod.mk.injEq] at hr
            rw [← hr.2]
            exact hc.2
          · cases hr
        · cases hr
      obtain ⟨own', hN'⟩ := weak_ok hle hN
      exact wp_ret ⟨S, l, R, own', env, hr, hN', hp⟩
    · cases h
  | _ =>
    intro S r h
    simp [cCode] at h

end

end V
end Go.Proofs.Ytgialjcichiaoaa

/-
A function keeps its promise.
-/
namespace Go.Proofs.Ytgialjcichiaoaa
namespace V

/-- Where a slot stands among those that come back. -/
def posN (s : Nat) : List Nat → Nat → Option Nat
  | [], _ => none
  | a :: r, k => if a = s then some k else posN s r (k + 1)

theorem posN_get {s : Nat} : ∀ {l : List Nat} {k j : Nat}, posN s l k = some j → k ≤ j ∧ l[j - k]? = some s
  | [], k, j, h => by cases h
  | a :: r, k, j, h => by
    simp only [posN] at h
    split at h
    · rename_i e
      simp only [Option.some.injEq] at h
      subst h
      exact ⟨Nat.le_refl _, by simp [e]⟩
    · obtain ⟨h1, h2⟩ := posN_get h
      refine ⟨by omega, ?_⟩
      rw [show j - k = (j - (k + 1)) + 1 from by omega, List.getElem?_cons_succ]
      exact h2

theorem posN_of {s : Nat} : ∀ {l : List Nat} {k j : Nat}, distinctN l = true → l[j]? = some s → posN s l k = some (k + j)
  | [], k, j, _, h => by simp at h
  | a :: r, k, j, hd, h => by
    simp only [distinctN, Bool.and_eq_true, Bool.not_eq_true'] at hd
    simp only [posN]
    cases j with
    | zero =>
      simp only [List.getElem?_cons_zero, Option.some.injEq] at h
      rw [if_pos h]; rfl
    | succ j =>
      simp only [List.getElem?_cons_succ] at h
      have hne : a ≠ s := fun e => by
        have := List.any_eq_false.1 hd.1 s (List.mem_of_getElem? h)
        rw [e] at this
        exact this (Nat.beq_refl _)
      rw [if_neg hne, posN_of hd.2 h]
      congr 1; omega

/-- The labels that come back. -/
def retO (l : List Nat) (own : Own) : Own := fun g => (own g).bind fun i => (posN i.leaf.1 l 0).map fun k => { i with leaf := (k, i.leaf.2) }

section
variable {cx : Cx} {own : Own} {w : World} {l : List Nat}

theorem retO_some {g : Nat} {j : OI} (h : retO l own g = some j) : ∃ i, own g = some i ∧ posN i.leaf.1 l 0 = some j.leaf.1 ∧ j = { i with leaf := (j.leaf.1, i.leaf.2) } := by
  unfold retO at h
  cases ho : own g with
  | none => rw [ho] at h; cases h
  | some i =>
    rw [ho] at h
    simp only [Option.bind_some] at h
    cases hp : posN i.leaf.1 l 0 with
    | none => rw [hp] at h; cases h
    | some k =>
      rw [hp] at h
      simp only [Option.map_some, Option.some.injEq] at h
      subst h
      exact ⟨i, rfl, hp, rfl⟩

theorem retO_claimed {g o : Nat} (h : claimed (retO l own) g o) : claimed own g o := by
  obtain ⟨j, b, h1, h2, h3⟩ := h
  obtain ⟨i, h4, _, h5⟩ := retO_some h1
  rw [h5] at h2
  exact ⟨i, b, h4, h2, h3⟩

theorem retO_none {g : Nat} (h : own g = none) : retO l own g = none := by unfold retO; rw [h]; rfl

theorem ret_cell {s k j : Nat} (hk : posN s l 0 = some k) {c : CS} {d : D} {v : Value} (hna : noAl c = true) (h : CellOk w cx own s j c d v) : CellOk w cx (retO l own) k j c d v := by
  refine ⟨h.1, ?_⟩
  have h2 := h.2
  have hrs : ∀ {d : D} {v : Value}, Rep w (RS cx own) d v → Rep w (RS cx (retO l own)) d v := fun hr => hr.sub fun g o hs => ⟨retO_none hs.1, hs.2⟩
  cases c with
  | n => exact h2
  | s => exact h2
  | r => exact hrs h2
  | b => exact Rep.sub h2 fun g o hs => ⟨fun hc => hs.1 (retO_claimed hc), hs.2⟩
  | x => trivial
  | al _ _ _ _ => cases hna
  | o m f =>
    refine OwnRep.relab2 h2 (fun g i hi hl => ?_) (fun d v hr => hrs hr)
    unfold retO
    rw [hi]
    have e1 : i.leaf.1 = s := by rw [hl]
    have e2 : i.leaf.2 = j + 1 := by rw [hl]
    simp [e1, e2, hk]

theorem ret_cells {s k : Nat} (hk : posN s l 0 = some k) {cs : List CS} {ds : List D} {vs : List Value} (hna : cs.all noAl = true) (h : All3 (CellOk w cx own s) cs ds vs) : All3 (CellOk w cx (retO l own) k) cs ds vs :=
  ⟨h.1, h.2.1, fun i c d v hc hd hv => ret_cell hk (List.all_eq_true.1 hna c (List.mem_of_getElem? hc)) (h.2.2 i c d v hc hd hv)⟩

end

/-- One result at the end of a function. -/
def ResIs (w : World) (cx : Cx) (own : Own) (env : Env) (s : Nat) (p : PSh) (v : Value) : Prop :=
  match p with
  | .v ag ws => ∃ vs, v = wrapV ag vs ∧ (ag = false → vs.length = 1) ∧ All3 (CellOk w cx own s) ws (env s) vs
  | .nbox ws => ∃ (g : Nat) (cur : Array Value) (T : TypeId), v = .pointer (some ⟨g, 0, none⟩) ∧ w.heap[g]? = some (Obj.cells cur T (0, 0)) ∧ All3 (CellOk w cx own s) ws (env s) cur.toList ∧ own g = some ⟨(s, 0), [], some 0⟩
  | _ => False

/-- How one result is read. -/
def readRes (tmps : Array Value) (r : ResultVar) : Sem Value :=
  match r with
  | .tmp t => pure (tmps.getD t undef)
  | .cell a t => do loadVar t (← asAddr (tmps.getD a undef))

section
variable {P : Program} {C : Cfg} {W : Wld} {T0 : Nat → Value} {w0 : World} {own0 : Own} {cx : Cx} {own : Own} {w : World} {env : Env} {a : Act} {L : Look}

theorem resOne_ok (hC : CfgOk P C) {r : ResultVar} {p : PSh} {s : Nat} {T : St} (h : resOne C L r p = some (s, T)) (hT : ∀ q ∈ T, SlotOk w cx own env (tvA a) q.1 q.2) :
    ∃ v, (readRes a.tmps r).run P w = .ok v w ∧ ResIs w cx own env s p v := by
  unfold resOne at h
  split at h
  · rename_i s' ag ws
    simp only [Option.some.injEq, Prod.mk.injEq] at h
    obtain ⟨rfl, rfl⟩ := h
    obtain ⟨vs, h1, h2, h3⟩ := hT _ (List.mem_singleton.2 rfl)
    exact ⟨tvA a s', rfl, vs, h1, h2, h3⟩
  · rename_i s' t ag ws
    split at h
    · rename_i ti hti
      split at h
      · rename_i hk
        simp only [Bool.and_eq_true, bEq_iff, nbeq] at hk
        simp only [Option.some.injEq, Prod.mk.injEq] at h
        obtain ⟨rfl, rfl⟩ := h
        obtain ⟨g, cur, Ty, h1, h2, h3, h4⟩ := hT _ (List.mem_singleton.2 rfl)
        have hty := hC t ti hti
        have hl : cur.toList.length = ti.size := by rw [h3.2.1, ← h3.1]; exact hk.2
        refine ⟨wrapV ti.agg cur.toList, ?_, cur.toList, by rw [hk.1], (fun e => by rw [hl]; exact hty.one (by rw [← hk.1]; exact e)), h3⟩
        have := run_loadVar' hty w g 0 cur.toList hl (fun j v hv => by
          rw [Nat.zero_add, cell_of_heap h2]
          simpa using hv)
        unfold readRes
        have e : a.tmps.getD s' undef = .pointer (some ⟨g, 0, none⟩) := h1
        simp only [e, asAddr, Sem.run_bind, Sem.run_pure, Result.andThen_ok, this]
      · cases h
    · cases h
  · rename_i s' ws
    split at h
    · rename_i b he
      simp only [Option.some.injEq, Prod.mk.injEq] at h
      obtain ⟨rfl, rfl⟩ := h
      obtain ⟨g', k1, k2⟩ := hT (s', .pt b 0) (List.mem_cons_self ..)
      obtain ⟨g, cur, Ty, h1, h2, h3, h4⟩ := hT (b, .box false ws) (List.mem_cons_of_mem _ (List.mem_singleton.2 rfl))
      simp only [Bool.false_eq_true, if_false] at h4
      refine ⟨tvA a s', rfl, g, cur, Ty, ?_, h2, h3, h4⟩
      rw [k2, ← k1, h1]
    · rename_i cs he
      simp only [Option.some.injEq, Prod.mk.injEq] at h
      obtain ⟨rfl, rfl⟩ := h
      obtain ⟨g, cur, Ty, h1, h2, h3, h4⟩ := hT _ (List.mem_singleton.2 rfl)
      simp only [Bool.false_eq_true, if_false] at h4
      exact ⟨tvA a s', rfl, g, cur, Ty, h1, h2, h3, h4⟩
    · cases h
  · cases h

theorem resAll_ok (hC : CfgOk P C) : ∀ {rs : List ResultVar} {ps : List PSh} {l : List Nat} {T : St}, resAll C L rs ps = some (l, T) → (∀ q ∈ T, SlotOk w cx own env (tvA a) q.1 q.2) →
    ∃ rv : List Value, rv.length = ps.length ∧ l.length = ps.length ∧ (rs.mapM (readRes a.tmps)).run P w = .ok rv w ∧ ∀ (k : Nat) (p : PSh), ps[k]? = some p → ∃ s v, l[k]? = some s ∧ rv[k]? = some v ∧ ResIs w cx own env s p v
  | [], [], l, T, h, _ => by
    simp only [resAll, Option.some.injEq, Prod.mk.injEq] at h
    obtain ⟨rfl, rfl⟩ := h
    exact ⟨[], rfl, rfl, rfl, fun k p h => by simp at h⟩
  | [], _ :: _, _, _, h, _ => by simp [resAll] at h
  | _ :: _, [], _, _, h, _ => by simp [resAll] at h
  | r :: rs, p :: ps, l, T, h, hT => by
    simp only [resAll] at h
    split at h
    · rename_i s S l' T' h1 h2
      simp only [Option.some.injEq, Prod.mk.injEq] at h
      obtain ⟨rfl, rfl⟩ := h
      obtain ⟨v, k1, k2⟩ := resOne_ok hC h1 (fun q hq => hT q (List.mem_append_left _ hq))
      obtain ⟨rv, m1, m2, m3, m4⟩ := resAll_ok hC h2 (fun q hq => hT q (List.mem_append_right _ hq))
      refine ⟨v :: rv, by simp [m1], by simp [m2], ?_, fun k p' hp => ?_⟩
      · rw [List.mapM_cons]
        simp only [Sem.run_bind, k1, Result.andThen_ok, m3, Sem.run_pure]
      · cases k with
        | zero =>
          simp only [List.getElem?_cons_zero, Option.some.injEq] at hp
          subst hp
          exact ⟨s, v, rfl, rfl, k2⟩
        | succ k => exact m4 k p' (by simpa using hp)
    · cases h

theorem boxAll_mem : ∀ {l : List (Nat × List CS)} {i k : Nat} {ws : List CS}, l[i]? = some (k, ws) → (k, Sh.box false ws) ∈ boxAll l
  | [], i, k, ws, h => by simp at h
  | (k0, ws0) :: r, i, k, ws, h => by
    simp only [boxAll]
    cases i with
    | zero =>
      simp only [List.getElem?_cons_zero, Option.some.injEq, Prod.mk.injEq] at h
      rw [h.1, h.2]; exact List.mem_cons_self ..
    | succ i => exact List.mem_cons_of_mem _ (boxAll_mem (by simpa using h))

theorem results_run {fn : Func} {tmps : Array Value} {rv : List Value} (h : (fn.results.toList.mapM (readRes tmps)).run P w = .ok rv w) : (results fn tmps).run P w = .ok (retV rv) w := by
  have e : results fn tmps = (do let vs ← fn.results.mapM (readRes tmps); pure (if h : vs.size = 1 then vs[0] else .tuple vs)) := by
    unfold results
    congr 1
  rw [e, Array.mapM_eq_mapM_toList]
  simp only [Sem.run_bind, map_eq_pure_bind, h, Result.andThen_ok, Sem.run_pure]
  match rv with
  | [] => rfl
  | [v] => rfl
  | v :: u :: r => rfl

/-- The end of a function. -/
theorem ret_ok (hC : CfgOk P C) {own' : Own} {w' : World} {fn : Func} {sig : Sig} {S R : St} {l : List Nat} {vals : List Value} (h : retSt C ⟨fn.results.toList, sig⟩ S = some (l, R)) (hfine : sig.fine = true) (hN : Now C (tvL vals) w own cx R own' env a w') (hw : WOk w own cx own' w')
    (hpin : (boxPs sig.ps 0).all (fun p => C.pin.any (Nat.beq p.1)) = true) :
    ∃ v, (results fn a.tmps).run P w' = .ok v w' ∧ ∃ own2, WOk w own cx own2 w' ∧ ResOk w' cx own2 sig (l.map env) vals v := by
  unfold retSt at h
  split at h
  · rename_i l0 T hres
    dsimp only at h
    split at h
    · rename_i hc
      simp only [Option.some.injEq, Prod.mk.injEq] at h
      obtain ⟨rfl, rfl⟩ := h
      simp only [Bool.and_eq_true] at hc
      obtain ⟨hd, _⟩ := hc
      obtain ⟨rv, m1, m2, m3, m4⟩ := resAll_ok (L := look S) (w := w') (cx := cx) (own := own') (env := env) (a := a) hC hres (fun q hq => hN.inv q (List.mem_append_left _ hq))
      refine ⟨retV rv, results_run m3, retO (l0 ++ (boxPs sig.ps 0).map (·.1)) own', ⟨hw.kept, fun g j hj => ?_, hw.n, hw.s1, hw.s2, fun g o hg hcl => hw.cl g o hg (retO_claimed hcl), fun g g' i j hi hj hl hp => ?_⟩, ?_⟩
      · obtain ⟨i, h1, _⟩ := retO_some hj
        exact hw.dom g i h1
      · obtain ⟨i0, h1, h2, h3⟩ := retO_some hi
        obtain ⟨j0, k1, k2, k3⟩ := retO_some hj
        have e1 := posN_get h2
        have e2 := posN_get k2
        rw [hl] at e1
        rw [e1.2] at e2
        simp only [Option.some.injEq] at e2
        have e3 : i0.leaf.2 = j0.leaf.2 := by
          have a1 : i.leaf.2 = i0.leaf.2 := by rw [h3]
          have a2 : j.leaf.2 = j0.leaf.2 := by rw [k3]
          rw [← a1, ← a2, hl]
        have e4 : i0.path = j0.path := by
          have a1 : i.path = i0.path := by rw [h3]
          have a2 : j.path = j0.path := by rw [k3]
          rw [← a1, ← a2]; exact hp
        exact hw.inj g g' i0 j0 h1 k1 (Prod.ext e2.2 e3) e4
      · have hll : l0.length = sig.rs.length := m2
        refine ⟨by simp [hll], rv, m1, rfl, fun k p hp => ?_, fun i b hb => ?_⟩
        · obtain ⟨s, v, q1, q2, q3⟩ := m4 k p hp
          have hk0 : (l0 ++ (boxPs sig.ps 0).map (·.1))[k]? = some s := by
            rw [List.getElem?_append_left (List.getElem?_eq_some_iff.1 q1).1]; exact q1
          have hpos := posN_of (k := 0) hd hk0
          rw [Nat.zero_add] at hpos
          have henv : envL ((l0 ++ (boxPs sig.ps 0).map (·.1)).map env) k = env s := by
            unfold envL
            rw [List.getD_eq_getElem?_getD, List.getElem?_map, hk0]; rfl
          have htv : tvL (rv ++ (boxPs sig.ps 0).map fun b => tvL vals b.1) k = v := by
            unfold tvL
            rw [List.getD_eq_getElem?_getD, List.getElem?_append_left (List.getElem?_eq_some_iff.1 q2).1, q2]; rfl
          cases p with
          | v ag ws =>
            obtain ⟨vs, n1, n2, n3⟩ := q3
            exact ⟨vs, by rw [htv]; exact n1, n2, by rw [henv]; exact ret_cells hpos (Sig.fine_rs hfine hp) n3⟩
          | nbox ws =>
            obtain ⟨g, cur, Ty, n1, n2, n3, n4⟩ := q3
            refine ⟨g, cur, Ty, by rw [htv]; exact n1, n2, by rw [henv]; exact ret_cells hpos (Sig.fine_nb hfine hp) n3, ?_⟩
            simp only [Bool.false_eq_true, if_false]
            unfold retO
            rw [n4]
            simp [hpos]
          | _ => exact q3.elim
        · obtain ⟨kb, ws⟩ := b
          have hk0 : (l0 ++ (boxPs sig.ps 0).map (·.1))[sig.rs.length + i]? = some kb := by
            rw [List.getElem?_append_right (by omega), hll, Nat.add_sub_cancel_left, List.getElem?_map, hb]; rfl
          have hpos := posN_of (k := 0) hd hk0
          rw [Nat.zero_add] at hpos
          obtain ⟨g, cur, Ty, n1, n2, n3, n4⟩ := hN.inv (kb, .box false ws) (List.mem_append_right _ (boxAll_mem hb))
          simp only [Bool.false_eq_true, if_false] at n4
          have henv : envL ((l0 ++ (boxPs sig.ps 0).map (·.1)).map env) (sig.rs.length + i) = env kb := by
            unfold envL
            rw [List.getD_eq_getElem?_getD, List.getElem?_map, hk0]; rfl
          have htv : tvL (rv ++ (boxPs sig.ps 0).map fun b => tvL vals b.1) (sig.rs.length + i) = tvL vals kb := by
            conv => lhs; unfold tvL
            rw [List.getD_eq_getElem?_getD, List.getElem?_append_right (by omega), m1, Nat.add_sub_cancel_left, List.getElem?_map, hb]; rfl
          have hpk := hN.pin kb (List.all_eq_true.1 hpin _ (List.mem_of_getElem? hb))
          refine ⟨g, cur, Ty, by rw [htv, ← hpk]; exact n1, n2, by rw [henv]; exact ret_cells hpos (Sig.fine_box hfine (boxPs_mem hb)) n3, ?_⟩
          simp only [Bool.false_eq_true, if_false]
          unfold retO
          rw [n4]
          simp [hpos]
    · cases h
  · cases h

/-- A function comes back with just this. -/
def RetIs (outs : List (List D)) : PX → Env → Prop
  | .ret vs, _ => vs = outs
  | _, _ => False

theorem fun_ok (hC : CfgOk P C) (hE : EqOk P C) (hm : P.follows .mixedOrders = true) {f : Nat} {fn : Func} (hf : P.funcs[f]? = some fn) (hname : (fn.name == "runtime.NumGoroutine") = false) {sig : Sig} {pc : PC} (hfine : sig.fine = true)
    (hc : cFun C fn sig = some pc) {ins outs : List (List D)} (hp : pwp (FunOk P W) pc (RetIs outs) (envL ins)) : FunOk P W f sig ins outs := by
  unfold cFun at hc
  split at hc
  · cases hc
  rename_i hk
  simp only [Bool.and_eq_true, nbeq] at hk
  obtain ⟨⟨hn, hnp⟩, hpin⟩ := hk
  split at hc
  · cases hc
  rename_i c hbody
  refine ⟨⟨fn, hf, hname, by rw [hbody]; rfl⟩, fun w own cx vals hP hw hlow hvl hil hinv => ?_⟩
  have X : Ctx P C W w own (FunOk P W) := ⟨hC, hE, fun _ _ _ _ h => h, hP, fun g i hi => (hlow g i hi).1, hm⟩
  let a0 : Act := { tmps := vals.toArray ++ Array.replicate (fn.ntmps - vals.toArray.size) undef, defers := [] }
  have htv : tvA a0 = tvL vals := by
    funext k
    show (vals.toArray ++ Array.replicate (fn.ntmps - vals.toArray.size) undef).getD k undef = vals.getD k undef
    rw [Array.getD_eq_getD_getElem?, List.getD_eq_getElem?_getD]
    by_cases hk : k < vals.length
    · rw [Array.getElem?_append_left (by simpa using hk)]
      simp
    · rw [Array.getElem?_append_right (by simpa using hk), List.getElem?_eq_none (by omega), Array.getElem?_replicate]
      split <;> rfl
  have hsz : a0.tmps.size = C.n := by
    show (vals.toArray ++ Array.replicate (fn.ntmps - vals.toArray.size) undef).size = C.n
    have : sig.ps.length ≤ C.n := Nat.le_of_ble_eq_true hnp
    simp
    omega
  have hN : Now C (tvL vals) w own cx (start sig) own (envL ins) a0 w := ⟨hw, by rw [htv]; exact hinv, hsz, rfl, fun k _ => by rw [htv]⟩
  refine calls_of_wp hf hbody ?_
  split at hc
  · cases hc
  rename_i r hr
  have fin : ∀ {S R : St} {l : List Nat} {own' : Own} {env : Env} {a : Act} {w' : World}, retSt C ⟨fn.results.toList, sig⟩ S = some (l, R) → Now C (tvL vals) w own cx R own' env a w' → RetIs outs (.ret (l.map env)) env →
      a.defers = [] ∧ ∃ v, (results fn a.tmps).run P w' = .ok v w' ∧ (fun e w' => ∃ v own', e = .returned v ∧ WOk w own cx own' w' ∧ ResOk w' cx own' sig outs vals v) (Ending.returned v) w' := by
    intro S R l own' env a w' h1 h2 h3
    obtain ⟨v, k1, own2, k2, k3⟩ := ret_ok hC h1 hfine h2 h2.wok hpin
    have h3' : l.map env = outs := h3
    rw [h3'] at k3
    exact ⟨h2.defers, v, k1, v, own2, rfl, k2, k3⟩
  split at hc
  · rename_i ho
    simp only [Option.some.injEq] at hc
    subst hc
    refine wp_mono (code_ok X hr hN hp) (fun e a w' h => ?_)
    cases e with
    | normal =>
      obtain ⟨T, _, _, q1, _⟩ := h
      rw [ho] at q1; cases q1
    | ret =>
      obtain ⟨S, l, R, own', env, q1, q2, q3⟩ := h
      exact fin q1 q2 q3
    | exit id =>
      obtain ⟨T, own', env, _, _, q3⟩ := h
      exact q3.elim
    | _ => exact h.elim
  · rename_i S ho
    split at hc
    · rename_i l R hrs
      simp only [Option.some.injEq] at hc
      subst hc
      refine wp_mono (code_ok X hr hN hp) (fun e a w' h => ?_)
      cases e with
      | normal =>
        obtain ⟨T, own', env, q1, q2, q3⟩ := h
        rw [ho] at q1
        simp only [Option.some.injEq] at q1
        subst q1
        have hle : leS S R = true := by
          unfold retSt at hrs
          split at hrs
          · dsimp only at hrs
            split at hrs
            · rename_i hcc
              simp only [Bool.and_eq_true] at hcc
              simp only [Option.some.injEq, Prod.mk.injEq] at hrs
              rw [← hrs.2]
              exact hcc.2
            · cases hrs
          · cases hrs
        obtain ⟨own2, hN2⟩ := weak_ok hle q2
        exact fin hrs hN2 q3
      | ret =>
        obtain ⟨S, l, R, own', env, q1, q2, q3⟩ := h
        exact fin q1 q2 q3
      | exit id =>
        obtain ⟨T, own', env, _, _, q3⟩ := h
        exact q3.elim
      | _ => exact h.elim
    · cases hc

end

end V
end Go.Proofs.Ytgialjcichiaoaa

/-
How statements are run: equations, for plain proofs.
-/
namespace Go.Proofs.Ytgialjcichiaoaa
namespace V

def optK {α : Type} (o : Option α) (K : α → Prop) : Prop := match o with | some a => K a | none => False

@[go_sem] theorem optK_some {α : Type} (a : α) (K : α → Prop) : optK (some a) K = K a := rfl
@[go_sem] theorem optK_none {α : Type} (K : α → Prop) : optK none K = False := rfl
@[go_sem] theorem optK_ite {α : Type} (c : Prop) [Decidable c] (x y : Option α) (K : α → Prop) : optK (if c then x else y) K = if c then optK x K else optK y K := by split <;> rfl

def run1 (Φ : Ask) (p : PS) (K : Env → Prop) (e : Env) : Prop := ∃ e', PRel Φ p e e' ∧ K e'
def runs (Φ : Ask) (ps : List PS) (K : Env → Prop) (e : Env) : Prop := ∃ e', PRels Φ ps e e' ∧ K e'

section
variable {Φ : Ask} {K : Env → Prop} {e : Env} {Q : PX → Env → Prop}

@[go_sem] theorem runs_nil : runs Φ [] K e = K e := by simp [runs, PRels]
@[go_sem] theorem runs_cons (p : PS) (ps : List PS) : runs Φ (p :: ps) K e = run1 Φ p (runs Φ ps K) e := by
  simp only [runs, run1, PRels, eq_iff_iff]
  constructor
  · rintro ⟨e', ⟨e1, h1, h2⟩, h3⟩; exact ⟨e1, h1, e', h2, h3⟩
  · rintro ⟨e1, h1, e', h2, h3⟩; exact ⟨e', ⟨e1, h1, h2⟩, h3⟩

theorem run_pure {p : PS} (h : pureP p = true) : run1 Φ p K e = optK (pstep p e) K := by
  have : ∀ e', PRel Φ p e e' ↔ pstep p e = some e' := fun e' => by cases p <;> first | exact Iff.rfl | cases h
  simp only [run1, this, eq_iff_iff]
  constructor
  · rintro ⟨e', h1, h2⟩; rw [h1]; exact h2
  · intro h
    cases hp : pstep p e with
    | none => rw [hp] at h; exact h.elim
    | some e' => rw [hp] at h; exact ⟨e', rfl, h⟩

@[go_sem] theorem run_nop : run1 Φ .nop K e = K e := by rw [run_pure rfl]; rfl
@[go_sem] theorem run_mv (d : Nat) (x : Opd) : run1 Φ (.mv d x) K e = K (put e d (x.get e)) := by rw [run_pure rfl]; rfl
@[go_sem] theorem run_sub (d s off n : Nat) : run1 Φ (.sub d s off n) K e = if off + n ≤ (e s).length then K (put e d (((e s).drop off).take n)) else False := by
  rw [run_pure rfl]; simp only [pstep]; split <;> rfl
@[go_sem] theorem run_ext (d s off n : Nat) : run1 Φ (.ext d s off n) K e = if off + n ≤ (e s).length then K (put e d (((e s).drop off).take n)) else False := by
  rw [run_pure rfl]; simp only [pstep]; split <;> rfl
@[go_sem] theorem run_bld (d : Nat) (z : List D) (ps : List (Nat × Opd)) : run1 Φ (.bld d z ps) K e = K (put e d (bldP e z ps)) := by rw [run_pure rfl]; rfl
@[go_sem] theorem run_lit (d n : Nat) (z : List D) (ps : List (Nat × Opd)) : run1 Φ (.lit d n z ps) K e = K (put e d [.sl (litP e (List.replicate n z) ps)]) := by rw [run_pure rfl]; rfl
@[go_sem] theorem run_st (b off : Nat) (x : Opd) : run1 Φ (.st b off x) K e = if off + (x.get e).length ≤ (e b).length then K (put e b (splice (e b) off (x.get e))) else False := by
  rw [run_pure rfl]; simp only [pstep]; split <;> rfl
@[go_sem] theorem run_bin (d : Nat) (op : BinOp) (x y : Opd) : run1 Φ (.bin d op x y) K e = optK (two (binV op) (x.get e) (y.get e)) fun c => K (put e d c) := by
  rw [run_pure rfl]; simp only [pstep]; cases two (binV op) (x.get e) (y.get e) <;> rfl
@[go_sem] theorem run_un (d : Nat) (op : UnOp) (x : Opd) : run1 Φ (.un d op x) K e = optK (one (unV op) (x.get e)) fun c => K (put e d c) := by
  rw [run_pure rfl]; simp only [pstep]; cases one (unV op) (x.get e) <;> rfl

def beqV (neg : Bool) : List D → List D → Option (List D)
  | [.bool a], [.bool b] => some [.bool ((a == b) != neg)]
  | _, _ => none
@[go_sem] theorem beqV_mk (neg a b : Bool) : beqV neg [.bool a] [.bool b] = some [.bool ((a == b) != neg)] := rfl
@[go_sem] theorem run_beq (d : Nat) (neg : Bool) (x y : Opd) : run1 Φ (.beq d neg x y) K e = optK (beqV neg (x.get e) (y.get e)) fun c => K (put e d c) := by
  rw [run_pure rfl]; simp only [pstep, beqV]; (repeat' split) <;> simp_all [optK]
@[go_sem] theorem run_eqs (d : Nat) (neg : Bool) (zs : List D) (x y : Opd) : run1 Φ (.eqs d neg zs x y) K e = if (fits zs (x.get e) && fits zs (y.get e)) = true then K (put e d [.bool (eqDs (x.get e) (y.get e) != neg)]) else False := by
  rw [run_pure rfl]; simp only [pstep]; split <;> rfl

def pickV : List D → List D → List D → Option (List D)
  | [.bool t], a, b => some (if t then a else b)
  | _, _, _ => none
@[go_sem] theorem pickV_mk (t : Bool) (a b : List D) : pickV [.bool t] a b = some (if t = true then a else b) := by cases t <;> rfl
@[go_sem] theorem run_pick (d : Nat) (c a b : Opd) : run1 Φ (.pick d c a b) K e = optK (pickV (c.get e) (a.get e) (b.get e)) fun x => K (put e d x) := by
  rw [run_pure rfl]; simp only [pstep, pickV]; (repeat' split) <;> simp_all [optK]

def elpV (sz : Nat) : List D → List D → Option (List D)
  | [.sl xs], [.int k n] => if 0 ≤ n then match xs[n.toNat]? with
      | some x => if x.length = sz then some [.sl xs, .int k n] else none
      | none => none
    else none
  | _, _ => none
@[go_sem] theorem run_elp (d : Nat) (l i : Opd) (sz : Nat) : run1 Φ (.elp d l i sz) K e = optK (elpV sz (l.get e) (i.get e)) fun x => K (put e d x) := by
  rw [run_pure rfl]; simp only [pstep, elpV]
  generalize l.get e = A
  generalize i.get e = B
  rcases A with _ | ⟨a, ar⟩
  · rfl
  cases a <;> cases ar <;> try rfl
  rcases B with _ | ⟨b, br⟩
  · rfl
  cases b <;> cases br <;> try rfl
  rename_i xs k n
  dsimp only
  split
  · cases xs[n.toNat]? with
    | none => rfl
    | some x => dsimp only; split <;> rfl
  · rfl
theorem elpV_mk {xs : List (List D)} {k : IntKind} {n sz : Nat} {x : List D} (hx : xs[n]? = some x) (hl : x.length = sz) : elpV sz [.sl xs] [.int k (n : Int)] = some [.sl xs, .int k (n : Int)] := by
  simp [elpV, hx, hl]

def eldV (off : Nat) (zs : List D) : List D → Option (List D)
  | [.sl xs, .int _ k] => match xs[k.toNat]? with
    | some x => if off + zs.length ≤ x.length && kinds zs ((x.drop off).take zs.length) then some ((x.drop off).take zs.length) else none
    | none => none
  | _ => none
@[go_sem] theorem run_eld (d s off : Nat) (zs : List D) : run1 Φ (.eld d s off zs) K e = optK (eldV off zs (e s)) fun x => K (put e d x) := by
  rw [run_pure rfl]; simp only [pstep, eldV]; (repeat' split) <;> simp_all [optK]
theorem eldV_mk {xs : List (List D)} {k : IntKind} {n off : Nat} {zs x : List D} (hx : xs[n]? = some x) (hl : off + zs.length ≤ x.length) (hk : kinds zs ((x.drop off).take zs.length) = true) : eldV off zs [.sl xs, .int k (n : Int)] = some ((x.drop off).take zs.length) := by
  simp [eldV, hx, hl, hk]

@[go_sem] theorem run_els (s off h i : Nat) (x : Opd) : run1 Φ (.els s off h i x) K e = optK (pstep (.els s off h i x) e) K := run_pure rfl
@[go_sem] theorem run_mk (d : Nat) (z : List D) (n c : Opd) : run1 Φ (.mk d z n c) K e = optK (pstep (.mk d z n c) e) K := run_pure rfl
@[go_sem] theorem run_bxp (d : Nat) (i : Opd) (len : Nat) : run1 Φ (.bxp d i len) K e = optK (pstep (.bxp d i len) e) K := run_pure rfl
@[go_sem] theorem run_bxl (d s b es off n : Nat) : run1 Φ (.bxl d s b es off n) K e = optK (pstep (.bxl d s b es off n) e) K := run_pure rfl
@[go_sem] theorem run_bxs (s b es off : Nat) (x : Opd) : run1 Φ (.bxs s b es off x) K e = optK (pstep (.bxs s b es off x) e) K := run_pure rfl

def lenV : List D → Option (List D)
  | [.sl xs] => some [.int .i64 xs.length]
  | _ => none
@[go_sem] theorem lenV_mk (xs : List (List D)) : lenV [.sl xs] = some [.int .i64 xs.length] := rfl
@[go_sem] theorem run_len (d : Nat) (x : Opd) : run1 Φ (.len d x) K e = optK (lenV (x.get e)) fun x => K (put e d x) := by
  rw [run_pure rfl]; simp only [pstep, lenV]; (repeat' split) <;> simp_all [optK]
@[go_sem] theorem run_slen (d : Nat) (x : Opd) : run1 Φ (.slen d x) K e = optK (pstep (.slen d x) e) K := run_pure rfl
@[go_sem] theorem run_sidx (d : Nat) (x i : Opd) : run1 Φ (.sidx d x i) K e = optK (pstep (.sidx d x i) e) K := run_pure rfl
@[go_sem] theorem run_ssl (d : Nat) (x : Opd) (lo hi : Option Opd) : run1 Φ (.ssl d x lo hi) K e = optK (pstep (.ssl d x lo hi) e) K := run_pure rfl
@[go_sem] theorem run_lsl (d sz : Nat) (x : Opd) (lo hi mx : Option Opd) : run1 Φ (.lsl d sz x lo hi mx) K e = optK (pstep (.lsl d sz x lo hi mx) e) K := run_pure rfl

def appV (sz : Nat) (sc : Bool) : List D → List D → Option (List D)
  | [.sl xs], [.sl ys] => if xs.length + ys.length ≤ lim ∧ (∀ x ∈ xs ++ ys, x.length = sz) ∧ (sc = true → ∀ y ∈ ys, y.all isScal = true) then some [.sl (xs ++ ys)] else none
  | _, _ => none
@[go_sem] theorem run_app (d sz : Nat) (sc : Bool) (x y : Opd) : run1 Φ (.app d sz sc x y) K e = optK (appV sz sc (x.get e) (y.get e)) fun x => K (put e d x) := by
  rw [run_pure rfl]; simp only [pstep, appV]
  generalize x.get e = A
  generalize y.get e = B
  rcases A with _ | ⟨a, ar⟩
  · rfl
  cases a <;> cases ar <;> try rfl
  rcases B with _ | ⟨b, br⟩
  · rfl
  cases b <;> cases br <;> try rfl
  dsimp only
  split <;> rfl
theorem appV_mk {sz : Nat} {sc : Bool} {xs ys : List (List D)} (h1 : xs.length + ys.length ≤ lim) (h2 : ∀ x ∈ xs, x.length = sz) (h3 : ∀ y ∈ ys, y.length = sz) (h4 : sc = true → ∀ y ∈ ys, y.all isScal = true) : appV sz sc [.sl xs] [.sl ys] = some [.sl (xs ++ ys)] := by
  simp only [appV]
  rw [if_pos ⟨h1, fun x hx => (List.mem_append.1 hx).elim (h2 x) (h3 x), h4⟩]

def cvtV (k : IntKind) : List D → Option (List D)
  | [.int _ n] => some [.int k (k.wrap n)]
  | _ => none
@[go_sem] theorem cvtV_mk (k k' : IntKind) (n : Int) : cvtV k [.int k' n] = some [.int k (k.wrap n)] := rfl
@[go_sem] theorem run_cvt (d : Nat) (k : IntKind) (x : Opd) : run1 Φ (.cvt d k x) K e = optK (cvtV k (x.get e)) fun x => K (put e d x) := by
  rw [run_pure rfl]; simp only [pstep, cvtV]; (repeat' split) <;> simp_all [optK]
@[go_sem] theorem run_s2b (d : Nat) (x : Opd) : run1 Φ (.s2b d x) K e = optK (pstep (.s2b d x) e) K := run_pure rfl
@[go_sem] theorem run_b2s (d : Nat) (x : Opd) : run1 Φ (.b2s d x) K e = optK (pstep (.b2s d x) e) K := run_pure rfl
@[go_sem] theorem run_i2s (d : Nat) (x : Opd) : run1 Φ (.i2s d x) K e = optK (pstep (.i2s d x) e) K := run_pure rfl
@[go_sem] theorem run_min (d : Nat) (x y : Opd) : run1 Φ (.min d x y) K e = optK (pstep (.min d x y) e) K := run_pure rfl
@[go_sem] theorem run_fn (d g : Nat) (fs : List (Bool × Opd)) (cs : List Nat) : run1 Φ (.fn d g fs cs) K e = K (put e d [.fn g (fs.map fun p => (p.1, p.2.get e)) (cs.map e)]) := by rw [run_pure rfl]; rfl

/-- A call, as a proof asks of it. -/
def callP (Φ : Ask) (f : Nat) (sig : Sig) (ins : List (List D)) (nb : Nat) (K : List (List D) → List (List D) → Prop) : Prop :=
  ∃ rs xs, Φ f sig ins (rs ++ xs) ∧ rs.length = sig.rs.length ∧ xs.length = nb ∧ K rs xs

@[go_sem] theorem run_call (d f : Nat) (sig : Sig) (args : List Opd) (bs : List Nat) : run1 Φ (.call d f sig args bs) K e = callP Φ f sig (args.map (·.get e)) bs.length fun rs xs => K (put (putAll e bs xs) d rs.flatten) := by
  simp only [run1, PRel, callP, eq_iff_iff]
  constructor
  · rintro ⟨e', ⟨rs, xs, h1, h2, h3, rfl⟩, h5⟩; exact ⟨rs, xs, h1, h2, h3, h5⟩
  · rintro ⟨rs, xs, h1, h2, h3, h5⟩; exact ⟨_, ⟨rs, xs, h1, h2, h3, rfl⟩, h5⟩

theorem call_of {f : Nat} {sig : Sig} {ins outs : List (List D)} {nb : Nat} {K : List (List D) → List (List D) → Prop} (h : Φ f sig ins outs) (rs xs : List (List D)) (ho : outs = rs ++ xs) (h1 : rs.length = sig.rs.length) (h2 : xs.length = nb) (hK : K rs xs) : callP Φ f sig ins nb K :=
  ⟨rs, xs, ho ▸ h, h1, h2, hK⟩

/-- A call with one result and no box. -/
theorem call1 {f : Nat} {sig : Sig} {ins : List (List D)} {r : List D} {K : List (List D) → List (List D) → Prop} (h : Φ f sig ins [r]) (h1 : 1 = sig.rs.length) (hK : K [r] []) : callP Φ f sig ins 0 K :=
  ⟨[r], [], h, h1, rfl, hK⟩

def callcP (Φ : Ask) (f : Nat) (sig : Sig) (fn : List D) (args : List (List D)) (K : List (List D) → Prop) : Prop :=
  ∃ fs cs rs, fn = [.fn f fs cs] ∧ fs.length + args.length + cs.length = sig.ps.length ∧ cs.length = nCaps sig.ps ∧ firstFits (sig.ps.take fs.length) fs = true ∧ capFits (sig.ps.drop (fs.length + args.length)) cs = true ∧
      Φ f sig (fs.map (·.2) ++ args ++ cs) rs ∧ rs.length = sig.rs.length ∧ K rs

@[go_sem] theorem run_callc (d s f : Nat) (sig : Sig) (args : List Opd) : run1 Φ (.callc d s f sig args) K e = callcP Φ f sig (e s) (args.map (·.get e)) fun rs => K (put e d rs.flatten) := by
  simp only [run1, PRel, callcP, eq_iff_iff, List.length_map]
  constructor
  · rintro ⟨e', ⟨fs, cs, rs, h1, h2, h3, h4, h5, h6, h7, rfl⟩, h8⟩; exact ⟨fs, cs, rs, h1, h2, h3, h4, h5, h6, h7, h8⟩
  · rintro ⟨fs, cs, rs, h1, h2, h3, h4, h5, h6, h7, h8⟩; exact ⟨_, ⟨fs, cs, rs, h1, h2, h3, h4, h5, h6, h7, rfl⟩, h8⟩

/-- Is it this bool. -/
def isB (l : List D) (b : Bool) : Bool :=
  match l with
  | [.bool c] => bEq c b
  | _ => false
theorem isB_iff {l : List D} {b : Bool} : isB l b = true ↔ l = [.bool b] := by
  unfold isB
  split
  · simp [bEq_iff]
  · rename_i h
    simp only [Bool.false_eq_true, false_iff]
    intro e
    exact h b e
@[go_sem] theorem isB_t (c : Bool) : isB [.bool c] true = c := by cases c <;> rfl
@[go_sem] theorem isB_f (c : Bool) : isB [.bool c] false = !c := by cases c <;> rfl
@[go_sem] theorem isB_nil (b : Bool) : isB [] b = false := rfl

@[go_sem] theorem run_g (s : Nat) (b : Bool) (d : Nat) (p : PS) : run1 Φ (.g s b d p) K e = if isB (e s) b = true then run1 Φ p K e else K (put e d []) := by
  simp only [run1, PRel, eq_iff_iff]
  by_cases h : e s = [.bool b]
  · rw [if_pos (isB_iff.2 h)]
    simp only [h, true_and, ne_eq, not_true_eq_false, false_and, or_false]
  · rw [if_neg (fun hb => h (isB_iff.1 hb))]
    simp only [h, false_and, ne_eq, not_false_eq_true, true_and, false_or]
    constructor
    · rintro ⟨e', rfl, h2⟩; exact h2
    · intro h2; exact ⟨_, rfl, h2⟩

@[go_sem] theorem pwp_skip : pwp Φ .skip Q e = Q .normal e := rfl
@[go_sem] theorem pwp_ss (ps : List PS) : pwp Φ (.ss ps) Q e = runs Φ ps (Q .normal) e := rfl
@[go_sem] theorem pwp_seq (a b : PC) : pwp Φ (.seq a b) Q e = pwp Φ a (PX.then (pwp Φ b Q) Q) e := rfl
@[go_sem] theorem pwp_cond (c : Opd) (a b : PC) : pwp Φ (.cond c a b) Q e = if isB (c.get e) true = true then pwp Φ a Q e else isB (c.get e) false = true ∧ pwp Φ b Q e := by
  simp only [pwp, eq_iff_iff]
  by_cases h : c.get e = [.bool true]
  · rw [if_pos (isB_iff.2 h)]
    simp [h]
  · rw [if_neg (fun hb => h (isB_iff.1 hb)), isB_iff]
    simp [h]
@[go_sem] theorem pwp_block (id : Nat) (a : PC) : pwp Φ (.block id a) Q e = pwp Φ a (PX.inBlock id Q) e := rfl
@[go_sem] theorem pwp_exit (id : Nat) : pwp Φ (.exit id) Q e = Q (.exit id) e := rfl
@[go_sem] theorem pwp_ret (l : List Nat) : pwp Φ (.ret l) Q e = Q (.ret (l.map e)) e := rfl

@[go_sem] theorem then_normal (K : Env → Prop) : PX.then K Q .normal = K := rfl
@[go_sem] theorem then_exit (K : Env → Prop) (i : Nat) : PX.then K Q (.exit i) = Q (.exit i) := rfl
@[go_sem] theorem then_ret (K : Env → Prop) (vs : List (List D)) : PX.then K Q (.ret vs) = Q (.ret vs) := rfl
@[go_sem] theorem inBlock_normal (id : Nat) : PX.inBlock id Q .normal = Q .normal := rfl
@[go_sem] theorem inBlock_ret (id : Nat) (vs : List (List D)) : PX.inBlock id Q (.ret vs) = Q (.ret vs) := rfl
@[go_sem] theorem inBlock_exit (id i : Nat) : PX.inBlock id Q (.exit i) = if i = id then Q .normal else Q (.exit i) := by
  funext e; simp only [PX.inBlock]; split <;> rfl
@[go_sem] theorem retIs_ret (outs vs : List (List D)) : RetIs outs (.ret vs) e = (vs = outs) := rfl

end

@[go_sem] theorem put_app (e : Env) (d s : Nat) (c : List D) : put e d c s = if s = d then c else e s := rfl
@[go_sem] theorem envL_cons (a : List D) (l : List (List D)) (k : Nat) : envL (a :: l) k = if k = 0 then a else envL l (k - 1) := by
  cases k <;> rfl
@[go_sem] theorem envL_nil (k : Nat) : envL [] k = [] := rfl
attribute [go_sem] Opd.get putAll bldP litP splice isScal

theorem pwp_mono {Φ : Ask} : ∀ (c : PC) (Q Q' : PX → Env → Prop), (∀ x e, Q x e → Q' x e) → ∀ e, pwp Φ c Q e → pwp Φ c Q' e := by
  intro c
  induction c with
  | skip => intro Q Q' hq e h; exact hq _ _ h
  | fail => intro Q Q' hq e h; exact h
  | ss ps => intro Q Q' hq e h; obtain ⟨e', h1, h2⟩ := h; exact ⟨e', h1, hq _ _ h2⟩
  | seq a b iha ihb =>
    intro Q Q' hq e h
    refine iha _ _ (fun x e hx => ?_) e h
    cases x with
    | normal => exact ihb _ _ hq e hx
    | exit i => exact hq _ _ hx
    | ret v => exact hq _ _ hx
  | cond c a b iha ihb =>
    intro Q Q' hq e h
    rcases h with ⟨h1, h2⟩ | ⟨h1, h2⟩
    · exact .inl ⟨h1, iha _ _ hq e h2⟩
    · exact .inr ⟨h1, ihb _ _ hq e h2⟩
  | block id a iha =>
    intro Q Q' hq e h
    refine iha _ _ (fun x e hx => ?_) e h
    cases x with
    | normal => exact hq _ _ hx
    | exit i =>
      simp only [PX.inBlock] at hx ⊢
      split <;> rename_i hi
      · rw [if_pos hi] at hx; exact hq _ _ hx
      · rw [if_neg hi] at hx; exact hq _ _ hx
    | ret v => exact hq _ _ hx
  | loop a iha =>
    intro Q Q' hq e h
    obtain ⟨n, hn⟩ := h
    refine ⟨n, ?_⟩
    revert e
    induction n with
    | zero => intro e h; exact h
    | succ n ih =>
      intro e h
      refine iha _ _ (fun x e hx => ?_) e h
      cases x with
      | normal => exact ih e hx
      | exit i => exact hq _ _ hx
      | ret v => exact hq _ _ hx
  | exit id => intro Q Q' hq e h; exact hq _ _ h
  | ret rs => intro Q Q' hq e h; exact hq _ _ h

/-- What a loop keeps; how many rounds it has at most. -/
theorem pwp_loop {Φ : Ask} {a : PC} {Q : PX → Env → Prop} {e : Env} (I : Nat → Env → Prop) (n : Nat) (h0 : I n e) (h : ∀ n e, I n e → pwp Φ a (PX.then (fun e' => ∃ m, m < n ∧ I m e') Q) e) : pwp Φ (.loop a) Q e := by
  have mono := @pwp_mono Φ
  have key : ∀ n e, I n e → ∀ k, n < k → rounds Φ a Q k e := by
    intro n
    induction n using Nat.strongRecOn with
    | _ n ih =>
      intro e hI k hk
      match k, hk with
      | k + 1, hk =>
        refine mono a _ _ (fun x e hx => ?_) e (h n e hI)
        cases x with
        | normal =>
          obtain ⟨m, hm, hI'⟩ := hx
          exact ih m hm e hI' k (by omega)
        | exit i => exact hx
        | ret v => exact hx
  exact ⟨n + 1, key n e h0 (n + 1) (Nat.lt_succ_self n)⟩

end V
end Go.Proofs.Ytgialjcichiaoaa

/-
Struct types whose parts are numbers, truths and strings can be compared.
-/
namespace Go.Proofs.Ytgialjcichiaoaa
namespace V

/-- Is a cell of a type. -/
def okT (P : Program) (t : Nat) (z : D) : Bool := match z, P.underlying t with
  | .int _ _, some (.int _) => true
  | .bool _, some .bool => true
  | .str _, some .string => true
  | _, _ => false

/-- Do the parts of a struct type agree with its zero, one cell each. -/
def chkFs (P : Program) : Nat → List Field → List D → Bool
  | _, [], [] => true
  | i, f :: fs, z :: zs => f.name != "_" && f.offset == i && P.plainKey f.type && okT P f.type z && chkFs P (i + 1) fs zs
  | _, _, _ => false

def chkEq (P : Program) (t : Nat) (zs : List D) : Bool :=
  P.eqGuardType P.depth t == false && P.stoodInHeld t == false && (match P.underlying t with | some (.struct fs) => chkFs P 0 fs.toList zs | _ => false)

section
variable {P : Program}

theorem eq1_ok {w : World} {t : Nat} {z x y : D} {v u : Value} (hu : okT P t z = true) (hx : fits [z] [x] = true) (hy : fits [z] [y] = true) (sx : Scal x v) (sy : Scal y u) : (Op.equalIn 9999 t v u).run P w = .ok (eqD x y) w := by
  cases z with
  | int j n =>
    cases sx <;> simp [fits] at hx
    cases sy <;> simp [fits] at hy
    subst hx
    cases hT : P.underlying t with
    | none => simp [okT, hT] at hu
    | some T =>
      cases T <;> simp [okT, hT] at hu
      rw [← hy, run_equalIn_int w 9998 t _ _ _ _ hT]
      simp [eqD]
  | bool b =>
    cases sx <;> simp [fits] at hx
    cases sy <;> simp [fits] at hy
    cases hT : P.underlying t with
    | none => simp [okT, hT] at hu
    | some T =>
      cases T <;> simp [okT, hT] at hu
      rw [run_equalIn_bool' w 9998 t _ _ hT]
      simp [eqD]
  | str s =>
    cases sx <;> simp [fits] at hx
    cases sy <;> simp [fits] at hy
    cases hT : P.underlying t with
    | none => simp [okT, hT] at hu
    | some T =>
      cases T <;> simp [okT, hT] at hu
      rw [run_equalIn_string w 9998 t _ _ hT]
      simp [eqD]
  | _ => simp [okT] at hu

theorem eqFields_ok {w : World} : ∀ (fs : List Field) (zs : List D) (i : Nat) (xs ys : List D) (vs us : List Value), chkFs P i fs zs = true → fits zs xs = true → fits zs ys = true →
    (∀ (j : Nat) (d : D), xs[j]? = some d → ∃ v, vs[i + j]? = some v ∧ Scal d v) → (∀ (j : Nat) (d : D), ys[j]? = some d → ∃ v, us[i + j]? = some v ∧ Scal d v) →
    (Op.eqFields 9999 vs.toArray us.toArray fs).run P w = .ok (eqDs xs ys) w
  | [], [], i, xs, ys, vs, us, _, hx, hy, _, _ => by
    cases xs <;> simp [fits] at hx
    cases ys <;> simp [fits] at hy
    simp [Op.eqFields, eqDs]
  | [], _ :: _, _, _, _, _, _, h, _, _, _, _ => by simp [chkFs] at h
  | _ :: _, [], _, _, _, _, _, h, _, _, _, _ => by simp [chkFs] at h
  | f :: fs, z :: zs, i, xs, ys, vs, us, h, hx, hy, sx, sy => by
    cases xs with
    | nil => simp [fits] at hx
    | cons x xs =>
    cases ys with
    | nil => simp [fits] at hy
    | cons y ys =>
    simp only [fits, Bool.and_eq_true] at hx hy
    simp only [chkFs, Bool.and_eq_true] at h
    obtain ⟨⟨⟨⟨h1, h2⟩, h3⟩, h4⟩, h5⟩ := h
    obtain ⟨v, hv, Sv⟩ := sx 0 x rfl
    obtain ⟨u, hu, Su⟩ := sy 0 y rfl
    have e2 : f.offset = i := by simpa using h2
    have hn : f.name ≠ "_" := by simpa using h1
    have pv := run_part_plain w h3 (xs := vs.toArray) (off := f.offset) (v := v) (by rw [e2]; simpa using hv)
    have pu := run_part_plain w h3 (xs := us.toArray) (off := f.offset) (v := u) (by rw [e2]; simpa using hu)
    have q := eq1_ok (w := w) (P := P) (t := f.type) (z := z) h4 (by simp only [fits, hx.1, Bool.true_and]) (by simp only [fits, hy.1, Bool.true_and]) Sv Su
    have rest := eqFields_ok (w := w) fs zs (i + 1) xs ys vs us h5 hx.2 hy.2 (fun j d hj => by
      obtain ⟨v, a, b⟩ := sx (j + 1) d (by simpa using hj)
      exact ⟨v, by rw [← a]; congr 1; omega, b⟩) (fun j d hj => by
      obtain ⟨v, a, b⟩ := sy (j + 1) d (by simpa using hj)
      exact ⟨v, by rw [← a]; congr 1; omega, b⟩)
    simp only [Op.eqFields, if_pos hn, Sem.run_bind, pv, pu, q, Result.andThen_ok, Sem.run_ite, eqDs]
    cases eqD x y
    · simp
    · simp [rest]

theorem chkEq_ok {t : Nat} {zs : List D} (h : chkEq P t zs = true) : EqTy P t zs := by
  simp only [chkEq, Bool.and_eq_true, beq_iff_eq] at h
  obtain ⟨⟨hg, hp⟩, h⟩ := h
  refine ⟨hg, ?_⟩
  intro w xs ys vs us fx fy lx ly sx sy
  cases hT : P.underlying t with
  | none => simp [hT] at h
  | some T =>
    cases T with
    | struct fs =>
      simp only [hT] at h
      have hf : P.fieldsOf t = fs := by simp [Program.fieldsOf, hT]
      rw [show (10000 : Nat) = 9999 + 1 from rfl, run_equalIn_agg w 9999 t _ _ (by rw [hf]; exact hT) hp, hf]
      refine eqFields_ok fs.toList zs 0 xs ys vs us h fx fy (fun j d hj => ?_) (fun j d hj => ?_)
      · have := (List.getElem?_eq_some_iff.1 hj).1
        have hv : vs[j]? = some vs[j] := List.getElem?_eq_getElem (by omega)
        exact ⟨_, by simpa using hv, sx j d _ hj hv⟩
      · have := (List.getElem?_eq_some_iff.1 hj).1
        have hv : us[j]? = some us[j] := List.getElem?_eq_getElem (by omega)
        exact ⟨_, by simpa using hv, sy j d _ hj hv⟩
    | _ => simp [hT] at h

/-- All types that are compared can be compared. -/
theorem eqOk_of {C : Cfg} (h : C.eqt.all (fun t => match C.ty t with | some ti => chkEq P t ti.zero | none => true) = true) : EqOk P C := fun t ti ht hti => by
  have h2 := List.all_eq_true.1 h t (by
    obtain ⟨x, hx, e⟩ := List.any_eq_true.1 ht
    rw [Nat.eq_of_beq_eq_true e]; exact hx)
  simp only [hti] at h2
  exact chkEq_ok h2
end
end V
end Go.Proofs.Ytgialjcichiaoaa

/-
What a plain proof has to show of a function's code, by computing.
-/
namespace Go.Proofs.Ytgialjcichiaoaa
namespace V

abbrev i64 (n : Int) : List D := [.int .i64 n]
abbrev bo (b : Bool) : List D := [.bool b]

/-- What is known of slots, the newest first. -/
abbrev Sl := List (Nat × List D)

/-- What a slot holds. Written with recursors, so that proofs by computing are quick to check. -/
noncomputable def lk (l : Sl) (e : Env) (s : Nat) : List D :=
  List.rec (motive := fun _ => List D) (e s) (fun p _ ih => match Nat.beq s p.1 with | true => p.2 | false => ih) l
theorem lk_nil' (e : Env) (s : Nat) : lk [] e s = e s := rfl
theorem lk_cons' (d : Nat) (c : List D) (l : Sl) (e : Env) (s : Nat) : lk ((d, c) :: l) e s = match Nat.beq s d with | true => c | false => lk l e s := rfl

noncomputable def og (l : Sl) (e : Env) : Opd → List D
  | .t s => lk l e s
  | .c d => [d]

theorem lk_cons (d : Nat) (c : List D) (l : Sl) (e : Env) : lk ((d, c) :: l) e = put (lk l e) d c := by
  funext s
  simp only [lk_cons', put]
  cases h : Nat.beq s d with
  | true => rw [if_pos (Nat.eq_of_beq_eq_true h)]
  | false => rw [if_neg (fun k => by rw [k, Nat.beq_refl] at h; cases h)]
theorem og_get (l : Sl) (e : Env) (x : Opd) : og l e x = x.get (lk l e) := by cases x <;> rfl

/-- One goes on here, or there. -/
def iteB (b : Bool) (x y : Prop) : Prop := match b with | true => x | false => y
theorem iteB_mk {b : Bool} {x y : Prop} (h1 : b = true → x) (h2 : b = false → y) : iteB b x y := by
  cases b
  · exact h2 rfl
  · exact h1 rfl

/-- Something is to be shown before one goes on. -/
structure Need (p k : Prop) : Prop where
  p : p
  k : k

def intD : D → Int
  | .int _ n => n
  | _ => 0
def boolD : D → Bool
  | .bool b => b
  | _ => false
def strD : D → ByteArray
  | .str s => s
  | _ => ByteArray.empty
def slD : D → List (List D)
  | .sl l => l
  | _ => []
def celAt (xs : List (List D)) (i : Int) (j : Nat) : D := (xs.getD i.toNat []).getD j .bad
def cI (xs : List (List D)) (i : Int) (j : Nat) : Int := intD (celAt xs i j)
def cB (xs : List (List D)) (i : Int) (j : Nat) : Bool := boolD (celAt xs i j)
def cS (xs : List (List D)) (i : Int) (j : Nat) : ByteArray := strD (celAt xs i j)
def cL (xs : List (List D)) (i : Int) (j : Nat) : List (List D) := slD (celAt xs i j)

/-- The cells of an element, as they are known by their kinds. -/
def rd1 (xs : List (List D)) (i : Int) (j : Nat) : D → D
  | .int k _ => .int k (cI xs i j)
  | .bool _ => .bool (cB xs i j)
  | .str _ => .str (cS xs i j)
  | .sl _ => .sl (cL xs i j)
  | z => z
noncomputable def rd (xs : List (List D)) (i : Int) (j : Nat) (zs : List D) : List D :=
  List.rec (motive := fun _ => Nat → List D) (fun _ => []) (fun z _ ih j => rd1 xs i j z :: ih (Nat.succ j)) zs j
theorem rd_nil (xs : List (List D)) (i : Int) (j : Nat) : rd xs i j [] = [] := rfl
theorem rd_cons (xs : List (List D)) (i : Int) (j : Nat) (z : D) (zs : List D) : rd xs i j (z :: zs) = rd1 xs i j z :: rd xs i (j + 1) zs := rfl

theorem rd1_ok {xs : List (List D)} {i : Int} {j : Nat} {z y : D} (hy : celAt xs i j = y) (h : kinds [z] [y] = true) : y = rd1 xs i j z := by
  simp only [kinds, Bool.and_true] at h
  cases z <;> cases y <;> simp only [Bool.false_eq_true, reduceCtorEq] at h <;> first
    | (simp only [rd1, cB, cS, cL, hy, boolD, strD, slD]; done)
    | (rw [beq_iff_eq] at h; subst h; simp only [rd1, cI, hy, intD])

def EldOk (xs : List (List D)) (i : Int) (off : Nat) (zs : List D) : Prop :=
  ∃ x, xs[i.toNat]? = some x ∧ off + zs.length ≤ x.length ∧ kinds zs ((x.drop off).take zs.length) = true
def ElpOk (xs : List (List D)) (i : Int) (sz : Nat) : Prop := 0 ≤ i ∧ ∃ x, xs[i.toNat]? = some x ∧ x.length = sz
def AppOk (sz : Nat) (sc : Bool) (xs ys : List (List D)) : Prop := xs.length + ys.length ≤ lim ∧ (∀ x ∈ xs ++ ys, x.length = sz) ∧ (sc = true → ∀ y ∈ ys, y.all isScal = true)

theorem rd_ok {xs : List (List D)} {i : Int} {x : List D} (hx : xs[i.toNat]? = some x) : ∀ (zs : List D) (off : Nat), off + zs.length ≤ x.length → kinds zs ((x.drop off).take zs.length) = true → (x.drop off).take zs.length = rd xs i off zs
  | [], off, _, _ => by simp [rd_nil]
  | z :: zs, off, hl, hk => by
    simp only [List.length_cons] at hl hk ⊢
    have ho : off < x.length := by omega
    have hd : x.drop off = x[off] :: x.drop (off + 1) := List.drop_eq_getElem_cons ho
    rw [hd, List.take_succ_cons] at hk ⊢
    simp only [kinds, Bool.and_eq_true] at hk
    have ih := rd_ok hx zs (off + 1) (by omega) hk.2
    have hc : celAt xs i off = x[off] := by simp [celAt, List.getD, hx, ho]
    rw [ih, rd_cons, ← rd1_ok (z := z) hc (by simp only [kinds, Bool.and_true]; exact hk.1)]

/-- The slot that a statement writes. -/
def dstOf : PS → Nat
  | .nop => 0
  | .mv d _ => d
  | .sub d _ _ _ => d
  | .bld d _ _ => d
  | .lit d _ _ _ => d
  | .mk d _ _ _ => d
  | .st b _ _ => b
  | .bin d _ _ _ => d
  | .un d _ _ => d
  | .beq d _ _ _ => d
  | .eqs d _ _ _ _ => d
  | .pick d _ _ _ => d
  | .elp d _ _ _ => d
  | .eld d _ _ _ => d
  | .els _ _ h _ _ => h
  | .bxp d _ _ => d
  | .bxl d _ _ _ _ _ => d
  | .bxs _ b _ _ _ => b
  | .len d _ => d
  | .slen d _ => d
  | .sidx d _ _ => d
  | .ssl d _ _ _ => d
  | .lsl d _ _ _ _ _ => d
  | .app d _ _ _ _ => d
  | .cvt d _ _ => d
  | .s2b d _ => d
  | .b2s d _ => d
  | .ext d _ _ _ => d
  | .min d _ _ => d
  | .i2s d _ => d
  | .fn d _ _ _ => d
  | .callc d _ _ _ _ => d
  | .call d _ _ _ _ => d
  | .g _ _ d _ => d

/-- A statement that is run by hand. -/
structure Fb (p : PS) (l : Sl) (e : Env) (K : Sl → Prop) : Prop where
  h : ∃ c, pstep p (lk l e) = some (put (lk l e) (dstOf p) c) ∧ K ((dstOf p, c) :: l)

structure CallQ (Φ : Ask) (f : Nat) (sig : Sig) (ins : List (List D)) (nb : Nat) (K : List (List D) → List (List D) → Prop) : Prop where
  h : callP Φ f sig ins nb K
structure CallcQ (Φ : Ask) (f : Nat) (sig : Sig) (fn : List D) (args : List (List D)) (K : List (List D) → Prop) : Prop where
  h : callcP Φ f sig fn args K

theorem call_mk {Φ : Ask} {f : Nat} {sig : Sig} {ins : List (List D)} {r : List D} {K : List (List D) → List (List D) → Prop} (h : Φ f sig ins [r]) (h1 : 1 = sig.rs.length) (hK : K [r] []) : CallQ Φ f sig ins 0 K := ⟨call1 h h1 hK⟩
theorem call_mk2 {Φ : Ask} {f : Nat} {sig : Sig} {ins ins' : List (List D)} {r : List D} {K : List (List D) → List (List D) → Prop} (h : Φ f sig ins' [r]) (hi : ins = ins') (h1 : 1 = sig.rs.length) (hK : K [r] []) : CallQ Φ f sig ins 0 K := ⟨call1 (hi ▸ h) h1 hK⟩
theorem callr_mk2 {Φ : Ask} {f : Nat} {sig : Sig} {ins ins' rs : List (List D)} {K : List (List D) → List (List D) → Prop} (h : Φ f sig ins' rs) (hi : ins = ins') (h1 : rs.length = sig.rs.length) (hK : K rs []) : CallQ Φ f sig ins 0 K := ⟨rs, [], by rw [hi]; simpa using h, h1, rfl, hK⟩
theorem callr_mk {Φ : Ask} {f : Nat} {sig : Sig} {ins rs : List (List D)} {K : List (List D) → List (List D) → Prop} (h : Φ f sig ins rs) (h1 : rs.length = sig.rs.length) (hK : K rs []) : CallQ Φ f sig ins 0 K := ⟨rs, [], by simpa using h, h1, rfl, hK⟩
theorem callb_mk {Φ : Ask} {f : Nat} {sig : Sig} {ins rs xs : List (List D)} {n : Nat} {K : List (List D) → List (List D) → Prop} (h : Φ f sig ins (rs ++ xs)) (h1 : rs.length = sig.rs.length) (h2 : xs.length = n) (hK : K rs xs) : CallQ Φ f sig ins n K := ⟨rs, xs, h, h1, h2, hK⟩

noncomputable def putsL (l : Sl) (bs : List Nat) (cs : List (List D)) : Sl :=
  List.rec (motive := fun _ => List (List D) → Sl → Sl) (fun _ l => l) (fun b _ ih cs l => match cs with | [] => l | c :: cs => ih cs ((b, c) :: l)) bs cs l
theorem putsL_nil (l : Sl) (cs : List (List D)) : putsL l [] cs = l := rfl
theorem putsL_nil' (l : Sl) (b : Nat) (bs : List Nat) : putsL l (b :: bs) [] = l := rfl
theorem putsL_cons (l : Sl) (b : Nat) (bs : List Nat) (c : List D) (cs : List (List D)) : putsL l (b :: bs) (c :: cs) = putsL ((b, c) :: l) bs cs := rfl
theorem lk_puts (e : Env) : ∀ (bs : List Nat) (cs : List (List D)) (l : Sl), lk (putsL l bs cs) e = putAll (lk l e) bs cs
  | [], [], l => rfl
  | [], _ :: _, l => rfl
  | _ :: _, [], l => rfl
  | b :: bs, c :: cs, l => by rw [putsL_cons, lk_puts e bs cs, lk_cons, putAll]

def okO (o : Option (List D)) (K : List D → Prop) : Prop := match o with | some c => K c | none => False

noncomputable def lsOf (l : Sl) (e : Env) (xs : List Opd) : List (List D) :=
  List.rec (motive := fun _ => List (List D)) [] (fun x _ ih => og l e x :: ih) xs
theorem lsOf_cons (l : Sl) (e : Env) (x : Opd) (xs : List Opd) : lsOf l e (x :: xs) = og l e x :: lsOf l e xs := rfl
theorem lsOf_eq (l : Sl) (e : Env) (xs : List Opd) : lsOf l e xs = xs.map (·.get (lk l e)) := by
  induction xs with
  | nil => rfl
  | cons x xs ih => rw [lsOf_cons, ih, og_get]; rfl
noncomputable def lksOf (l : Sl) (e : Env) (xs : List Nat) : List (List D) :=
  List.rec (motive := fun _ => List (List D)) [] (fun x _ ih => lk l e x :: ih) xs
theorem lksOf_cons (l : Sl) (e : Env) (x : Nat) (xs : List Nat) : lksOf l e (x :: xs) = lk l e x :: lksOf l e xs := rfl
theorem lksOf_eq (l : Sl) (e : Env) (xs : List Nat) : lksOf l e xs = xs.map (lk l e) := by
  induction xs with
  | nil => rfl
  | cons x xs ih => rw [lksOf_cons, ih]; rfl

/-- Cells, looked at before one goes on. -/
def fcD (d : D) (K : D → Prop) : Prop :=
  match d with
  | .int k n => K (.int k n)
  | .bool b => K (.bool b)
  | .str s => K (.str s)
  | .sl l => K (.sl l)
  | d => K d
noncomputable def fc (c : List D) (K : List D → Prop) : Prop :=
  List.rec (motive := fun _ => (List D → Prop) → Prop) (fun K => K []) (fun d _ ih K => fcD d fun d => ih fun r => K (d :: r)) c K
noncomputable def fcs (cs : List (List D)) (K : List (List D) → Prop) : Prop :=
  List.rec (motive := fun _ => (List (List D) → Prop) → Prop) (fun K => K []) (fun c _ ih K => fc c fun c => ih fun r => K (c :: r)) cs K
theorem fc_cons (d : D) (r : List D) (K : List D → Prop) : fc (d :: r) K = fcD d fun d => fc r fun r => K (d :: r) := rfl
theorem fcs_cons (d : List D) (r : List (List D)) (K : List (List D) → Prop) : fcs (d :: r) K = fc d fun d => fcs r fun r => K (d :: r) := rfl
theorem fcD_eq (d : D) (K : D → Prop) : fcD d K = K d := by cases d <;> rfl
theorem fc_eq : ∀ (c : List D) (K : List D → Prop), fc c K = K c
  | [], K => rfl
  | d :: r, K => by rw [fc_cons, fcD_eq, fc_eq r]
theorem fcs_eq : ∀ (c : List (List D)) (K : List (List D) → Prop), fcs c K = K c
  | [], K => rfl
  | d :: r, K => by rw [fcs_cons, fc_eq, fcs_eq r]

/-- A slot is written. -/
noncomputable def wr (d : Nat) (c : List D) (l : Sl) (K : Sl → Prop) : Prop := fc c fun c => K ((d, c) :: l)
theorem wr_eq (d : Nat) (c : List D) (l : Sl) (K : Sl → Prop) : wr d c l K = K ((d, c) :: l) := by rw [wr, fc_eq]
noncomputable def wrs (l : Sl) (bs : List Nat) (cs : List (List D)) (K : Sl → Prop) : Prop := fcs cs fun cs => K (putsL l bs cs)
theorem wrs_eq (l : Sl) (bs : List Nat) (cs : List (List D)) (K : Sl → Prop) : wrs l bs cs K = K (putsL l bs cs) := by rw [wrs, fcs_eq]

def ElsOk (xs ys : List (List D)) (i : Int) (off : Nat) (c : List D) : Prop := ∃ a b, xs[i.toNat]? = some a ∧ ys[i.toNat]? = some b ∧ a.length = b.length ∧ off + c.length ≤ b.length
def elsV (ys : List (List D)) (i : Int) (off : Nat) (c : List D) : List (List D) := ys.set i.toNat (splice (ys.getD i.toNat []) off c)
/-- An optional index. -/
noncomputable def idI (l : Sl) (e : Env) (o : Option Opd) (dft : Int) : Option Int :=
  match o with
  | none => some dft
  | some x => match og l e x with
    | [.int _ n] => some n
    | _ => none
theorem idI_ok {l : Sl} {e : Env} {o : Option Opd} {dft : Nat} {n : Int} (h : idI l e o dft = some n) (h0 : 0 ≤ n) : idx (lk l e) o dft = some n.toNat := by
  unfold idI at h
  unfold idx
  cases o with
  | none => cases h; rfl
  | some x =>
    dsimp only at h ⊢
    rw [← og_get]
    split at h
    · rename_i k m hm
      cases h
      rw [hm]
      dsimp only
      rw [if_pos h0]
    · cases h
def isNo : Option Opd → Bool
  | none => true
  | some _ => false
def LslOk (sz : Nat) (xs : List (List D)) (a b : Int) : Prop := 0 ≤ a ∧ a ≤ b ∧ b ≤ xs.length ∧ ∀ x ∈ xs, x.length = sz

/-- One statement. -/
noncomputable def wqs1 (Φ : Ask) (e : Env) : PS → Sl → (Sl → Prop) → Prop
  | .nop, l, K => K l
  | .mv d x, l, K => wr d (og l e x) l K
  | .sub d s off n, l, K => match Nat.ble (off + n) (lk l e s).length with
    | true => wr d (((lk l e s).drop off).take n) l K
    | false => False
  | .ext d s off n, l, K => match Nat.ble (off + n) (lk l e s).length with
    | true => wr d (((lk l e s).drop off).take n) l K
    | false => False
  | .bld d z ps, l, K => wr d (bldP (lk l e) z ps) l K
  | .lit d n z ps, l, K => fcs (litP (lk l e) (List.replicate n z) ps) fun xs => K ((d, [.sl xs]) :: l)
  | .st b off x, l, K => match Nat.ble (off + (og l e x).length) (lk l e b).length with
    | true => wr b (splice (lk l e b) off (og l e x)) l K
    | false => False
  | .bin d op x y, l, K => okO (two (binV op) (og l e x) (og l e y)) fun c => wr d c l K
  | .un d op x, l, K => okO (one (unV op) (og l e x)) fun c => wr d c l K
  | .beq d neg x y, l, K => okO (beqV neg (og l e x) (og l e y)) fun c => wr d c l K
  | .eqs d neg zs x y, l, K => match fits zs (og l e x) && fits zs (og l e y) with
    | true => K ((d, [.bool (eqDs (og l e x) (og l e y) != neg)]) :: l)
    | false => False
  | .pick d c a b, l, K => match og l e c with
    | [.bool t] => iteB t (wr d (og l e a) l K) (wr d (og l e b) l K)
    | _ => False
  | .elp d x i sz, l, K => match og l e x, og l e i with
    | [.sl xs], [.int k n] => Need (ElpOk xs n sz) (K ((d, [.sl xs, .int k n]) :: l))
    | _, _ => False
  | .eld d s off zs, l, K => match lk l e s with
    | [.sl xs, .int _ n] => Need (EldOk xs n off zs) (wr d (rd xs n off zs) l K)
    | _ => False
  | .len d x, l, K => match og l e x with
    | [.sl xs] => K ((d, [.int .i64 xs.length]) :: l)
    | _ => False
  | .app d sz sc x y, l, K => match og l e x, og l e y with
    | [.sl xs], [.sl ys] => Need (AppOk sz sc xs ys) (K ((d, [.sl (xs ++ ys)]) :: l))
    | _, _ => False
  | .mk d z n c, l, K => match og l e n, og l e c with
    | [.int _ k], [.int _ m] => Need (0 ≤ k ∧ k ≤ m ∧ m ≤ lim) (K ((d, [.sl (List.replicate k.toNat z)]) :: l))
    | _, _ => False
  | .cvt d k x, l, K => match og l e x with
    | [.int _ n] => K ((d, [.int k (k.wrap n)]) :: l)
    | _ => False
  | .g _ _ _ _, _, _ => False
  | .els s off h i x, l, K => match lk l e s with
    | [.sl xs, .int _ k] => match (lk l e h)[i]? with
      | some (.sl ys) => fc (og l e x) fun c => Need (ElsOk xs ys k off c) (wr h ((lk l e h).set i (.sl (elsV ys k off c))) l K)
      | _ => False
    | _ => False
  | .fn d g fs cs, l, K => K ((d, [.fn g (fs.map fun p => (p.1, p.2.get (lk l e))) (cs.map (lk l e))]) :: l)
  | .min d x y, l, K => match og l e x, og l e y with
    | [.int k a], [.int k' b] => match decide (k = k') with
      | true => K ((d, [.int k (if b < a then b else a)]) :: l)
      | false => False
    | _, _ => False
  | .bxp d i len, l, K => match og l e i with
    | [.int k n] => Need (0 ≤ n ∧ n < len) (K ((d, [.int k n]) :: l))
    | _ => False
  | .lsl d sz x lo hi mx, l, K => match og l e x with
    | [.sl xs] => match idI l e lo 0, idI l e hi xs.length, isNo mx with
      | some a, some b, true => Need (LslOk sz xs a b) (K ((d, [.sl ((xs.take b.toNat).drop a.toNat)]) :: l))
      | _, _, _ => False
    | _ => False
  | .call d f sig aas bs, l, K => fcs (lsOf l e aas) fun ins => CallQ Φ f sig ins bs.length fun rs xs => wrs l bs xs fun l => wr d rs.flatten l K
  | .callc d s f sig aas, l, K => fcs (lsOf l e aas) fun ins => CallcQ Φ f sig (lk l e s) ins fun rs => wr d rs.flatten l K
  | p, l, K => Fb p l e K

noncomputable def wqs (Φ : Ask) (e : Env) : PS → Sl → (Sl → Prop) → Prop
  | .g s b d p, l, K => match lk l e s with
    | [.bool v] => iteB v
        (match b with | true => wqs1 Φ e p ((s, [.bool true]) :: l) K | false => K ((d, []) :: (s, [.bool true]) :: l))
        (match b with | true => K ((d, []) :: (s, [.bool false]) :: l) | false => wqs1 Φ e p ((s, [.bool false]) :: l) K)
    | [] => K ((d, []) :: l)
    | _ => False
  | p, l, K => wqs1 Φ e p l K

noncomputable def wqss (Φ : Ask) (e : Env) (ps : List PS) (l : Sl) (K : Sl → Prop) : Prop :=
  List.rec (motive := fun _ => Sl → Prop) (fun l => K l) (fun p _ ih l => wqs Φ e p l ih) ps l
theorem wqss_cons (Φ : Ask) (e : Env) (p : PS) (ps : List PS) (l : Sl) (K : Sl → Prop) : wqss Φ e (p :: ps) l K = wqs Φ e p l fun l' => wqss Φ e ps l' K := rfl

theorem lk_self {l : Sl} {e : Env} {s : Nat} {c : List D} (h : lk l e s = c) : lk ((s, c) :: l) e = lk l e := by
  rw [lk_cons, ← h]
  funext k
  simp only [put]
  split
  · rename_i h; rw [h]
  · rfl

/-- Whoever shows what is asked has shown what the statement does. -/
theorem wqs1_ok {Φ : Ask} {e : Env} : ∀ (p : PS) (l : Sl) (K : Sl → Prop), wqs1 Φ e p l K → ∃ l', PRel Φ p (lk l e) (lk l' e) ∧ K l' := by
  have one : ∀ (p : PS) (l : Sl) (K : Sl → Prop) (d : Nat) (c : List D), pstep p (lk l e) = some (put (lk l e) d c) → (PRel Φ p (lk l e) (put (lk l e) d c) ↔ pstep p (lk l e) = some (put (lk l e) d c)) → K ((d, c) :: l) → ∃ l', PRel Φ p (lk l e) (lk l' e) ∧ K l' :=
    fun p l K d c h hp hk => ⟨(d, c) :: l, by rw [lk_cons]; exact hp.2 h, hk⟩
  have two : ∀ (p : PS) (l : Sl) (K : Sl → Prop) (d : Nat) (c : List D), wr d c l K → pstep p (lk l e) = some (put (lk l e) d c) → (PRel Φ p (lk l e) (put (lk l e) d c) ↔ pstep p (lk l e) = some (put (lk l e) d c)) → ∃ l', PRel Φ p (lk l e) (lk l' e) ∧ K l' :=
    fun p l K d c hk h hp => one p l K d c h hp (by rwa [wr_eq] at hk)
  intro p
  induction p with
  | nop => intro l K h; exact ⟨l, rfl, h⟩
  | mv d x => intro l K h; exact two _ l K d _ h (by simp only [pstep, og_get]) Iff.rfl
  | sub d s off n =>
    intro l K h
    simp only [wqs1] at h
    split at h
    · rename_i hb
      exact two _ l K d _ h (by simp only [pstep]; rw [if_pos (Nat.le_of_ble_eq_true hb)]) Iff.rfl
    · exact h.elim
  | ext d s off n =>
    intro l K h
    simp only [wqs1] at h
    split at h
    · rename_i hb
      exact two _ l K d _ h (by simp only [pstep]; rw [if_pos (Nat.le_of_ble_eq_true hb)]) Iff.rfl
    · exact h.elim
  | bld d z ps => intro l K h; exact two _ l K d _ h rfl Iff.rfl
  | lit d n z ps => intro l K h; simp only [wqs1, fcs_eq] at h; exact one _ l K d _ rfl Iff.rfl h
  | st b off x =>
    intro l K h
    simp only [wqs1] at h
    split at h
    · rename_i hb
      exact two _ l K b _ h (by simp only [pstep, ← og_get]; rw [if_pos (Nat.le_of_ble_eq_true hb)]) Iff.rfl
    · exact h.elim
  | bin d op x y =>
    intro l K h
    simp only [wqs1, okO] at h
    split at h
    · rename_i c hc
      exact two _ l K d c h (by simp only [pstep, ← og_get, hc, Option.map_some]) Iff.rfl
    · exact h.elim
  | un d op x =>
    intro l K h
    simp only [wqs1, okO] at h
    split at h
    · rename_i c hc
      exact two _ l K d c h (by simp only [pstep, ← og_get, hc, Option.map_some]) Iff.rfl
    · exact h.elim
  | beq d neg x y =>
    intro l K h
    simp only [wqs1, okO] at h
    split at h
    · rename_i c hc
      refine two _ l K d c h ?_ Iff.rfl
      simp only [pstep, ← og_get]
      unfold beqV at hc
      split at hc
      · rename_i h1 h2; rw [h1, h2]; cases hc; rfl
      · cases hc
    · exact h.elim
  | eqs d neg zs x y =>
    intro l K h
    simp only [wqs1] at h
    split at h
    · rename_i hb
      exact one _ l K d _ (by simp only [pstep, ← og_get]; rw [if_pos hb]) Iff.rfl h
    · exact h.elim
  | pick d c a b =>
    intro l K h
    simp only [wqs1] at h
    split at h
    · rename_i t hc
      cases t with
      | true => exact two _ l K d _ h (by simp only [pstep, ← og_get, hc, if_true]) Iff.rfl
      | false => exact two _ l K d _ h (by simp only [pstep, ← og_get, hc, Bool.false_eq_true, if_false]) Iff.rfl
    · exact h.elim
  | elp d x i sz =>
    intro l K h
    simp only [wqs1] at h
    split at h
    · rename_i xs k n h1 h2
      obtain ⟨⟨h0, y, hy, hl⟩, hk⟩ := h
      exact one _ l K d _ (by simp only [pstep, ← og_get, h1, h2, if_pos h0, hy, if_pos hl]) Iff.rfl hk
    · exact h.elim
  | eld d s off zs =>
    intro l K h
    simp only [wqs1] at h
    split at h
    · rename_i xs k n h1
      obtain ⟨⟨y, hy, hl, hkd⟩, hk⟩ := h
      refine two _ l K d _ hk ?_ Iff.rfl
      simp only [pstep, h1, hy]
      rw [if_pos (by simp [hl, hkd]), rd_ok hy zs off hl hkd]
    · exact h.elim
  | len d x =>
    intro l K h
    simp only [wqs1] at h
    split at h
    · rename_i xs h1
      exact one _ l K d _ (by simp only [pstep, ← og_get, h1]) Iff.rfl h
    · exact h.elim
  | app d sz sc x y =>
    intro l K h
    simp only [wqs1] at h
    split at h
    · rename_i xs ys h1 h2
      obtain ⟨h3, hk⟩ := h
      have h3' : xs.length + ys.length ≤ lim ∧ (∀ x ∈ xs ++ ys, x.length = sz) ∧ (sc = true → ∀ y ∈ ys, y.all isScal = true) := h3
      exact one _ l K d _ (by simp only [pstep, ← og_get, h1, h2]; rw [if_pos h3']) Iff.rfl hk
    · exact h.elim
  | mk d z n c =>
    intro l K h
    simp only [wqs1] at h
    split at h
    · rename_i k m h1 h2
      obtain ⟨h3, hk⟩ := h
      exact one _ l K d _ (by simp only [pstep, ← og_get, h1, h2]; rw [if_pos h3]) Iff.rfl hk
    · exact h.elim
  | cvt d k x =>
    intro l K h
    simp only [wqs1] at h
    split at h
    · rename_i n h1
      exact one _ l K d _ (by simp only [pstep, ← og_get, h1]) Iff.rfl h
    · exact h.elim
  | g s b d p ih => intro l K h; exact h.elim
  | call d f sig aas bs =>
    intro l K h
    simp only [wqs1, fcs_eq] at h
    obtain ⟨rs, xs, h1, h2, h3, h4⟩ := h.h
    rw [wrs_eq, wr_eq] at h4
    exact ⟨_, ⟨rs, xs, by rw [← lsOf_eq]; exact h1, h2, h3, by rw [lk_cons, lk_puts]⟩, h4⟩
  | callc d s f sig aas =>
    intro l K h
    simp only [wqs1, fcs_eq] at h
    obtain ⟨fs, cs, rs, h1, h2, h3, h4, h5, h6, h7, h8⟩ := h.h
    rw [wr_eq] at h8
    rw [lsOf_eq] at h2 h5 h6
    rw [List.length_map] at h2 h5
    exact ⟨_, ⟨fs, cs, rs, h1, h2, h3, h4, h5, h6, h7, by rw [lk_cons]⟩, h8⟩
  | els s off hh i x =>
    intro l K h
    simp only [wqs1] at h
    split at h
    · rename_i xs k n h1
      split at h
      · rename_i ys h2
        rw [fc_eq] at h
        obtain ⟨⟨a, b, ha, hb, hab, ho⟩, hk⟩ := h
        refine two _ l K _ _ hk ?_ Iff.rfl
        simp only [pstep, h1, h2, ha, hb, ← og_get]
        rw [if_pos ⟨hab, ho⟩]
        simp only [elsV, List.getD_eq_getElem?_getD, hb, Option.getD_some]
      · exact h.elim
    · exact h.elim
  | bxp d i len =>
    intro l K h
    simp only [wqs1] at h
    split at h
    · rename_i k n h1
      obtain ⟨h3, hk⟩ := h
      exact one _ l K _ _ (by simp only [pstep, ← og_get, h1]; rw [if_pos h3]) Iff.rfl hk
    · exact h.elim
  | bxl d s b es off n => intro l K h; obtain ⟨c, h1, h2⟩ := h.h; exact one _ l K _ c h1 Iff.rfl h2
  | bxs s b es off x => intro l K h; obtain ⟨c, h1, h2⟩ := h.h; exact one _ l K _ c h1 Iff.rfl h2
  | slen d x => intro l K h; obtain ⟨c, h1, h2⟩ := h.h; exact one _ l K _ c h1 Iff.rfl h2
  | sidx d x i => intro l K h; obtain ⟨c, h1, h2⟩ := h.h; exact one _ l K _ c h1 Iff.rfl h2
  | ssl d x lo hi => intro l K h; obtain ⟨c, h1, h2⟩ := h.h; exact one _ l K _ c h1 Iff.rfl h2
  | lsl d sz x lo hi mx =>
    intro l K h
    simp only [wqs1] at h
    split at h
    · rename_i xs h1
      split at h
      · rename_i a b h2 h3 h4
        obtain ⟨⟨p1, p2, p3, p4⟩, hk⟩ := h
        have e1 := idI_ok (dft := 0) h2 p1
        have e2 := idI_ok h3 (by omega)
        have hm : mx = none := by cases mx with | none => rfl | some _ => cases h4
        subst hm
        refine one _ l K _ _ ?_ Iff.rfl hk
        simp only [pstep, ← og_get, h1, e1, e2]
        rw [show idx (lk l e) none b.toNat = some b.toNat from rfl]
        dsimp only
        rw [if_pos ⟨by omega, by omega, .inl (by simp), p4⟩]
      · exact h.elim
    · exact h.elim
  | s2b d x => intro l K h; obtain ⟨c, h1, h2⟩ := h.h; exact one _ l K _ c h1 Iff.rfl h2
  | b2s d x => intro l K h; obtain ⟨c, h1, h2⟩ := h.h; exact one _ l K _ c h1 Iff.rfl h2
  | min d x y =>
    intro l K h
    simp only [wqs1] at h
    split at h
    · rename_i k a k' b h1 h2
      split at h
      · rename_i hk
        exact one _ l K _ _ (by simp only [pstep, ← og_get, h1, h2]; rw [if_pos (of_decide_eq_true hk)]) Iff.rfl h
      · exact h.elim
    · exact h.elim
  | i2s d x => intro l K h; obtain ⟨c, h1, h2⟩ := h.h; exact one _ l K _ c h1 Iff.rfl h2
  | fn d g fs cs => intro l K h; exact one _ l K _ _ rfl Iff.rfl h

theorem wqs_ok {Φ : Ask} {e : Env} (p : PS) (l : Sl) (K : Sl → Prop) (h : wqs Φ e p l K) : ∃ l', PRel Φ p (lk l e) (lk l' e) ∧ K l' := by
  by_cases hg : ∃ s b d q, p = .g s b d q
  · obtain ⟨s, b, d, p, rfl⟩ := hg
    simp only [wqs] at h
    have nogo : lk l e s ≠ [.bool b] → K ((d, []) :: l) → ∃ l', PRel Φ (.g s b d p) (lk l e) (lk l' e) ∧ K l' := fun hn hk => ⟨(d, []) :: l, .inr ⟨hn, by rw [lk_cons]⟩, hk⟩
    split at h
    · rename_i v hv
      cases v with
      | true =>
        simp only [iteB] at h
        cases b with
        | true =>
          obtain ⟨l', h1, h2⟩ := wqs1_ok _ _ _ h
          rw [lk_self hv] at h1
          exact ⟨l', .inl ⟨hv, h1⟩, h2⟩
        | false =>
          refine ⟨_, .inr ⟨by rw [hv]; simp, ?_⟩, h⟩
          rw [lk_cons, lk_self hv]
      | false =>
        simp only [iteB] at h
        cases b with
        | false =>
          obtain ⟨l', h1, h2⟩ := wqs1_ok _ _ _ h
          rw [lk_self hv] at h1
          exact ⟨l', .inl ⟨hv, h1⟩, h2⟩
        | true =>
          refine ⟨_, .inr ⟨by rw [hv]; simp, ?_⟩, h⟩
          rw [lk_cons, lk_self hv]
    · rename_i hv
      exact nogo (by rw [hv]; simp) h
    · exact h.elim

  · refine wqs1_ok p l K ?_
    cases p <;> first | exact h | exact (hg ⟨_, _, _, _, rfl⟩).elim

theorem wqss_ok {Φ : Ask} {e : Env} : ∀ (ps : List PS) (l : Sl) (K : Sl → Prop), wqss Φ e ps l K → ∃ l', PRels Φ ps (lk l e) (lk l' e) ∧ K l'
  | [], l, K, h => ⟨l, rfl, h⟩
  | p :: ps, l, K, h => by
    rw [wqss_cons] at h
    obtain ⟨l1, h1, h2⟩ := wqs_ok p l _ h
    obtain ⟨l2, h3, h4⟩ := wqss_ok ps l1 K h2
    exact ⟨l2, ⟨_, h1, h3⟩, h4⟩

abbrev WQ := PX → Sl → Env → Prop

/-- What was asked, of slots. -/
def toQ (Q : WQ) : PX → Env → Prop := fun x e' => ∃ l e, e' = lk l e ∧ Q x l e

structure LoopQ (Φ : Ask) (a : PC) (Q : WQ) (l : Sl) (e : Env) : Prop where
  h : pwp Φ (.loop a) (toQ Q) (lk l e)

/-- One goes on as a truth says, and knows it from there on. -/
noncomputable def condQ (l : Sl) (e : Env) (c : Opd) (A B : Sl → Prop) : Prop :=
  match og l e c with
  | [.bool v] => match c with
    | .t s => iteB v (A ((s, [.bool true]) :: l)) (B ((s, [.bool false]) :: l))
    | .c _ => iteB v (A l) (B l)
  | _ => False

/-- A function's code. -/
noncomputable def wq (Φ : Ask) (p : PC) (Q : WQ) (l : Sl) (e : Env) : Prop :=
  PC.rec (motive := fun _ => WQ → Sl → Env → Prop)
    (fun Q l e => Q .normal l e)
    (fun _ _ _ => False)
    (fun ps Q l e => wqss Φ e ps l fun l' => Q .normal l' e)
    (fun _ _ iha ihb Q l e => iha (fun x l' e' => match x with
      | .normal => ihb Q l' e'
      | .exit i => Q (.exit i) l' e'
      | .ret vs => Q (.ret vs) l' e') l e)
    (fun c _ _ iha ihb Q l e => condQ l e c (fun l => iha Q l e) (fun l => ihb Q l e))
    (fun id _ iha Q l e => iha (fun x l' e' => match x with
      | .normal => Q .normal l' e'
      | .exit i => match Nat.beq i id with
        | true => Q .normal l' e'
        | false => Q (.exit i) l' e'
      | .ret vs => Q (.ret vs) l' e') l e)
    (fun a _ Q l e => LoopQ Φ a Q l e)
    (fun id Q l e => Q (.exit id) l e)
    (fun rs Q l e => fcs (lksOf l e rs) fun vs => Q (.ret vs) l e)
    p Q l e

theorem wq_ok {Φ : Ask} : ∀ (p : PC) (Q : WQ) (l : Sl) (e : Env), wq Φ p Q l e → pwp Φ p (toQ Q) (lk l e) := by
  intro p
  induction p with
  | skip => intro Q l e h; exact ⟨l, e, rfl, h⟩
  | fail => intro Q l e h; exact h
  | ss ps =>
    intro Q l e h
    obtain ⟨l', h1, h2⟩ := wqss_ok ps l _ h
    exact ⟨_, h1, l', e, rfl, h2⟩
  | seq a b iha ihb =>
    intro Q l e h
    refine pwp_mono a _ _ ?_ _ (iha _ l e h)
    rintro x _ ⟨l', e', rfl, hx⟩
    cases x with
    | normal => exact ihb Q l' e' hx
    | exit i => exact ⟨l', e', rfl, hx⟩
    | ret v => exact ⟨l', e', rfl, hx⟩
  | cond c a b iha ihb =>
    intro Q l e h
    have h : condQ l e c (fun l => wq Φ a Q l e) (fun l => wq Φ b Q l e) := h
    unfold condQ at h
    simp only [pwp]
    split at h
    · rename_i v hv
      rw [og_get] at hv
      cases c with
      | t s =>
        have hv' : lk l e s = [.bool v] := hv
        cases v with
        | true => refine .inl ⟨hv, ?_⟩; have := iha Q _ _ h; rwa [lk_self hv'] at this
        | false => refine .inr ⟨hv, ?_⟩; have := ihb Q _ _ h; rwa [lk_self hv'] at this
      | c d =>
        cases v with
        | true => exact .inl ⟨hv, iha Q _ _ h⟩
        | false => exact .inr ⟨hv, ihb Q _ _ h⟩
    · exact h.elim
  | block id a iha =>
    intro Q l e h
    refine pwp_mono a _ _ ?_ _ (iha _ l e h)
    rintro x _ ⟨l', e', rfl, hx⟩
    cases x with
    | normal => exact ⟨l', e', rfl, hx⟩
    | exit i =>
      simp only [PX.inBlock]
      dsimp only at hx
      split at hx
      · rename_i hb; rw [if_pos (Nat.eq_of_beq_eq_true hb)]; exact ⟨l', e', rfl, hx⟩
      · rename_i hb; rw [if_neg (fun k => by rw [k, Nat.beq_refl] at hb; cases hb)]; exact ⟨l', e', rfl, hx⟩
    | ret v => exact ⟨l', e', rfl, hx⟩
  | loop a iha => intro Q l e h; exact h.h
  | exit id => intro Q l e h; exact ⟨l, e, rfl, h⟩
  | ret rs => intro Q l e h; have h : fcs (lksOf l e rs) fun vs => Q (.ret vs) l e := h; rw [fcs_eq] at h; exact ⟨l, e, rfl, by rw [← lksOf_eq]; exact h⟩

/-- Are these slots so. -/
noncomputable def agree (s l : Sl) (e : Env) : Prop :=
  List.rec (motive := fun _ => Prop) True (fun p _ ih => lk l e p.1 = p.2 ∧ ih) s
theorem agree_cons (d : Nat) (c : List D) (r l : Sl) (e : Env) : agree ((d, c) :: r) l e = (lk l e d = c ∧ agree r l e) := rfl

theorem agree_eq : ∀ {s l : Sl} {e : Env}, agree s l e → lk s (lk l e) = lk l e
  | [], l, e, _ => by funext k; rfl
  | (d, c) :: r, l, e, h => by
    rw [agree_cons] at h
    rw [lk_cons, agree_eq h.2, ← h.1]
    funext k
    simp only [put]
    split
    · rename_i h; rw [h]
    · rfl

theorem loop_mk {Φ : Ask} {a : PC} {Q : WQ} {l : Sl} {e : Env} {X : Type} (P : X → Prop) (st : X → Sl) (mu : X → Nat) (x0 : X) (hP : P x0) (h0 : agree (st x0) l e)
    (body : ∀ x e, P x → wq Φ a (fun k l' e' => match k with
      | .normal => ∃ x', mu x' < mu x ∧ P x' ∧ agree (st x') l' e'
      | .exit i => Q (.exit i) l' e'
      | .ret vs => Q (.ret vs) l' e') (st x) e) : LoopQ Φ a Q l e := by
  refine ⟨pwp_loop (fun n e1 => ∃ x, mu x = n ∧ P x ∧ ∃ e, e1 = lk (st x) e) (mu x0) ⟨x0, rfl, hP, lk l e, (agree_eq h0).symm⟩ ?_⟩
  rintro n _ ⟨x, rfl, hx, e1, rfl⟩
  refine pwp_mono a _ _ ?_ _ (wq_ok a _ _ _ (body x e1 hx))
  rintro k _ ⟨l', e', rfl, hk⟩
  cases k with
  | normal =>
    obtain ⟨x', h1, h2, h3⟩ := hk
    exact ⟨mu x', h1, x', rfl, h2, lk l' e', (agree_eq h3).symm⟩
  | exit i => exact ⟨l', e', rfl, hk⟩
  | ret v => exact ⟨l', e', rfl, hk⟩

noncomputable def insL (k : Nat) (cs : List (List D)) : Sl :=
  List.rec (motive := fun _ => Nat → Sl) (fun _ => []) (fun a _ ih k => (k, a) :: ih (Nat.succ k)) cs k
theorem insL_nil (k : Nat) : insL k [] = [] := rfl
theorem insL_cons (k : Nat) (a : List D) (r : List (List D)) : insL k (a :: r) = (k, a) :: insL (k + 1) r := rfl

theorem lk_ins : ∀ (k : Nat) (l : List (List D)) (s : Nat), lk (insL k l) (fun _ => []) (k + s) = envL l s
  | k, [], s => by simp [insL_nil, lk_nil', envL_nil]
  | k, a :: r, 0 => by simp [insL_cons, lk_cons', envL_cons]
  | k, a :: r, s + 1 => by
    have : Nat.beq (k + (s + 1)) k = false := by
      cases h : Nat.beq (k + (s + 1)) k with
      | false => rfl
      | true => have := Nat.eq_of_beq_eq_true h; omega
    simp only [insL_cons, lk_cons', this, envL_cons]
    rw [if_neg (by omega), show k + (s + 1) = (k + 1) + s by omega, lk_ins (k + 1) r s, Nat.add_sub_cancel]
theorem lk_args (l : List (List D)) : lk (insL 0 l) (fun _ => []) = envL l := by
  funext s
  have := lk_ins 0 l s
  rwa [Nat.zero_add] at this

/-- What a function has to return. -/
def retQ (outs : List (List D)) : WQ := fun x _ _ => match x with
  | .ret vs => vs = outs
  | .exit _ => False
  | .normal => False

theorem wq_fun {Φ : Ask} {p : PC} {ins outs : List (List D)} (h : wq Φ p (retQ outs) (insL 0 ins) (fun _ => [])) : pwp Φ p (RetIs outs) (envL ins) := by
  rw [← lk_args]
  refine pwp_mono p _ _ ?_ _ (wq_ok p _ _ _ h)
  rintro x _ ⟨l', e', rfl, hx⟩
  cases x with
  | normal => exact hx.elim
  | exit i => exact hx.elim
  | ret v => exact hx

end V
end Go.Proofs.Ytgialjcichiaoaa

/-
Packages, disks and steps, as plain values; how they lie in cells.
-/
namespace Go.Proofs.Ytgialjcichiaoaa
namespace V

structure P2 where
  a : Int
  b : Int
deriving DecidableEq, Inhabited

structure Pk where
  name : Int
  ver : Int
  files : List P2
  deps : List P2
deriving DecidableEq, Inhabited

structure Dk where
  db : List Pk
  files : List Int
  has : Bool
  jour : List Pk
deriving DecidableEq, Inhabited

structure Stp where
  kind : Int
  path : Int
  data : Int
  pkgs : List Pk
deriving DecidableEq, Inhabited

abbrev eP2 (p : P2) : List D := [.int .i64 p.a, .int .i64 p.b]
abbrev ePk (p : Pk) : List D := [.int .i64 p.name, .int .i64 p.ver, .sl (p.files.map eP2), .sl (p.deps.map eP2)]
abbrev ePks (l : List Pk) : List D := [.sl (l.map ePk)]
abbrev eP2s (l : List P2) : List D := [.sl (l.map eP2)]
abbrev eU (x : Int) : List D := [.int .u8 x]
abbrev eBs (b : List Int) : List D := [.sl (b.map eU)]
abbrev eIs (l : List Int) : List D := [.sl (l.map i64)]
abbrev eDk (d : Dk) : List D := [.sl (d.db.map ePk), .sl (d.files.map i64), .bool d.has, .sl (d.jour.map ePk)]
abbrev eSt (s : Stp) : List D := [.int .i64 s.kind, .int .i64 s.path, .int .i64 s.data, .sl (s.pkgs.map ePk)]
abbrev eSts (l : List Stp) : List D := [.sl (l.map eSt)]

/-- The element of a list at a number. -/
def ix {α : Type} [Inhabited α] (xs : List α) (n : Int) : α := xs.getD n.toNat default

/-- It holds of all numbers below one. -/
def Blw (n : Int) (P : Int → Prop) : Prop := ∀ j : Int, 0 ≤ j → j < n → P j
theorem blw_zero (P : Int → Prop) : Blw 0 P := fun j h0 h1 => by omega
theorem blw_succ {n : Int} {P : Int → Prop} (h : Blw n P) (hn : P n) : Blw (n + 1) P := fun j h0 h1 => by
  by_cases e : j = n
  · exact e ▸ hn
  · exact h j h0 (by omega)
theorem blw_to {n m : Int} {P : Int → Prop} (h : Blw n P) (hm : m ≤ n) : Blw m P := fun j h0 h1 => h j h0 (by omega)

theorem elp_m {α : Type} {enc : α → List D} {xs : List α} {i : Int} {sz : Nat} (h0 : 0 ≤ i) (h1 : i < xs.length) (hl : ∀ x, (enc x).length = sz) : ElpOk (xs.map enc) i sz := by
  have : i.toNat < xs.length := by omega
  exact ⟨h0, enc xs[i.toNat], by simp [this], hl _⟩
theorem eld_m {α : Type} [Inhabited α] {enc : α → List D} {xs : List α} {i : Int} {off : Nat} {zs : List D} (h0 : 0 ≤ i) (h1 : i < xs.length) (hk : ∀ x, (Nat.ble (off + zs.length) (enc x).length && kinds zs (((enc x).drop off).take zs.length)) = true) : EldOk (xs.map enc) i off zs := by
  have : i.toNat < xs.length := by omega
  have hx := hk xs[i.toNat]
  simp only [Bool.and_eq_true] at hx
  exact ⟨enc xs[i.toNat], by simp [this], Nat.le_of_ble_eq_true hx.1, hx.2⟩

theorem app_nil_m {α : Type} {enc : α → List D} {ys : List α} {sz : Nat} {sc : Bool} (hl : ys.length ≤ 1073741824) (hz : ∀ x, (enc x).length = sz) (hs : ∀ x, (!sc || (enc x).all isScal) = true) : AppOk sz sc [] (ys.map enc) := by
  refine ⟨by simp [lim, hl], by simp [hz], fun h y hy => ?_⟩
  obtain ⟨x, _, rfl⟩ := List.mem_map.1 hy
  have := hs x
  rw [h] at this
  simpa using this
theorem app_m_one {α : Type} {enc : α → List D} {xs : List α} {c : List D} {sz : Nat} {sc : Bool} (hl : xs.length < 1073741824) (hz : ∀ x, (enc x).length = sz) (hc : c.length = sz) (hs : (!sc || c.all isScal) = true) : AppOk sz sc (xs.map enc) [c] := by
  refine ⟨by simp [lim]; omega, ?_, fun h y hy => ?_⟩
  · intro x hx
    rcases List.mem_append.1 hx with h | h
    · obtain ⟨y, _, rfl⟩ := List.mem_map.1 h; exact hz y
    · rw [List.mem_singleton.1 h]; exact hc
  · rw [List.mem_singleton.1 hy]
    rw [h] at hs
    simpa using hs
theorem app_m_m {α : Type} {enc : α → List D} {xs ys : List α} {sz : Nat} {sc : Bool} (hl : xs.length + ys.length ≤ 1073741824) (hz : ∀ x, (enc x).length = sz) (hs : ∀ x, (!sc || (enc x).all isScal) = true) : AppOk sz sc (xs.map enc) (ys.map enc) := by
  refine ⟨by simp [lim, hl], ?_, fun h y hy => ?_⟩
  · intro x hx
    rcases List.mem_append.1 hx with h | h <;> (obtain ⟨y, _, rfl⟩ := List.mem_map.1 h; exact hz y)
  · obtain ⟨x, _, rfl⟩ := List.mem_map.1 hy
    have := hs x
    rw [h] at this
    simpa using this
theorem els_m {xs ys : List Int} {i : Int} {c : List D} (h0 : 0 ≤ i) (h1 : i < xs.length) (h2 : i < ys.length) (hc : c.length = 1) : ElsOk (xs.map i64) (ys.map i64) i 0 c := by
  have a : i.toNat < xs.length := by omega
  have b : i.toNat < ys.length := by omega
  exact ⟨i64 xs[i.toNat], i64 ys[i.toNat], by simp [a], by simp [b], rfl, by simp [hc]⟩
theorem els_v {ys : List Int} {i : Int} {v : Int} (h0 : 0 ≤ i) (h2 : i < ys.length) : elsV (ys.map i64) i 0 [.int .i64 v] = (ys.set i.toNat v).map i64 := by
  have b : i.toNat < ys.length := by omega
  simp only [elsV, List.getD_eq_getElem?_getD, List.getElem?_map, List.getElem?_eq_getElem b, Option.map_some, Option.getD_some]
  rw [List.map_set]
  rfl
theorem lsl_m {α : Type} {enc : α → List D} {xs : List α} {sz : Nat} {a b : Int} (h : 0 ≤ a ∧ a ≤ b ∧ b ≤ xs.length) (hz : ∀ x, (enc x).length = sz) : LslOk sz (xs.map enc) a b :=
  ⟨h.1, h.2.1, by simpa using h.2.2, fun x hx => by obtain ⟨y, _, rfl⟩ := List.mem_map.1 hx; exact hz y⟩
theorem cel_m {α : Type} [Inhabited α] (enc : α → List D) (xs : List α) (i : Int) (j : Nat) : celAt (xs.map enc) i j = if i.toNat < xs.length then (enc (ix xs i)).getD j .bad else .bad := by
  by_cases h : i.toNat < xs.length
  · simp [celAt, ix, h]
  · simp [celAt, h]
theorem ix_out {α : Type} [Inhabited α] {xs : List α} {i : Int} (h : ¬ i.toNat < xs.length) : ix xs i = default := by simp [ix, h]

theorem cI_P2_0 (xs : List P2) (i : Int) : cI (xs.map eP2) i 0 = (ix xs i).a := by
  by_cases h : i.toNat < xs.length <;> simp [cI, cel_m, h, intD] <;> rw [ix_out h] <;> rfl
theorem cI_P2_1 (xs : List P2) (i : Int) : cI (xs.map eP2) i 1 = (ix xs i).b := by
  by_cases h : i.toNat < xs.length <;> simp [cI, cel_m, h, intD] <;> rw [ix_out h] <;> rfl
theorem cI_Pk_0 (xs : List Pk) (i : Int) : cI (xs.map ePk) i 0 = (ix xs i).name := by
  by_cases h : i.toNat < xs.length <;> simp [cI, cel_m, h, intD] <;> rw [ix_out h] <;> rfl
theorem cI_Pk_1 (xs : List Pk) (i : Int) : cI (xs.map ePk) i 1 = (ix xs i).ver := by
  by_cases h : i.toNat < xs.length <;> simp [cI, cel_m, h, intD] <;> rw [ix_out h] <;> rfl
theorem cL_Pk_2 (xs : List Pk) (i : Int) : cL (xs.map ePk) i 2 = (ix xs i).files.map eP2 := by
  by_cases h : i.toNat < xs.length <;> simp [cL, cel_m, h, slD] <;> rw [ix_out h] <;> rfl
theorem cL_Pk_3 (xs : List Pk) (i : Int) : cL (xs.map ePk) i 3 = (ix xs i).deps.map eP2 := by
  by_cases h : i.toNat < xs.length <;> simp [cL, cel_m, h, slD] <;> rw [ix_out h] <;> rfl
theorem cI_St_0 (xs : List Stp) (i : Int) : cI (xs.map eSt) i 0 = (ix xs i).kind := by
  by_cases h : i.toNat < xs.length <;> simp [cI, cel_m, h, intD] <;> rw [ix_out h] <;> rfl
theorem cI_St_1 (xs : List Stp) (i : Int) : cI (xs.map eSt) i 1 = (ix xs i).path := by
  by_cases h : i.toNat < xs.length <;> simp [cI, cel_m, h, intD] <;> rw [ix_out h] <;> rfl
theorem cI_St_2 (xs : List Stp) (i : Int) : cI (xs.map eSt) i 2 = (ix xs i).data := by
  by_cases h : i.toNat < xs.length <;> simp [cI, cel_m, h, intD] <;> rw [ix_out h] <;> rfl
theorem cL_St_3 (xs : List Stp) (i : Int) : cL (xs.map eSt) i 3 = (ix xs i).pkgs.map ePk := by
  by_cases h : i.toNat < xs.length <;> simp [cL, cel_m, h, slD] <;> rw [ix_out h] <;> rfl
theorem cI_I (xs : List Int) (i : Int) : cI (xs.map i64) i 0 = ix xs i := by
  by_cases h : i.toNat < xs.length <;> simp [cI, cel_m, h, intD] <;> rw [ix_out h] <;> rfl
theorem cI_U (xs : List Int) (i : Int) : cI (xs.map eU) i 0 = ix xs i := by
  by_cases h : i.toNat < xs.length <;> simp [cI, cel_m, h, intD] <;> rw [ix_out h] <;> rfl
theorem cB_B (xs : List Bool) (i : Int) : cB (xs.map bo) i 0 = ix xs i := by
  by_cases h : i.toNat < xs.length <;> simp [cB, cel_m, h, boolD] <;> rw [ix_out h] <;> rfl

theorem wrap64 (n : Int) (h : -9223372036854775808 ≤ n ∧ n ≤ 9223372036854775807) : IntKind.i64.wrap n = n := by
  show (if (true && decide (n % (2 ^ 64 : Int) ≥ (2 ^ 63 : Int))) = true then n % (2 ^ 64 : Int) - (2 ^ 64 : Int) else n % (2 ^ 64 : Int)) = n
  simp only [Bool.true_and, decide_eq_true_eq]
  split <;> omega
theorem i64_eq {a b : Int} (h : a = b) : ([.int .i64 a] : List D) = [.int .i64 b] := by rw [h]
theorem ix_map {α β : Type} [Inhabited α] [Inhabited β] (f : α → β) (xs : List α) (i : Int) (h : i.toNat < xs.length) : ix (xs.map f) i = f (ix xs i) := by simp [ix, h]
theorem ix_mem {α : Type} [Inhabited α] {xs : List α} {i : Int} (h0 : 0 ≤ i) (h1 : i < xs.length) : ix xs i ∈ xs := by
  have : i.toNat < xs.length := by omega
  simp [ix, this]
theorem ix_ext {α : Type} [Inhabited α] {xs ys : List α} (hl : xs.length = ys.length) (h : Blw xs.length (fun i => ix xs i = ix ys i)) : xs = ys := by
  refine List.ext_getElem hl (fun n h1 h2 => ?_)
  have := h n (by omega) (by omega)
  simpa [ix, h1, h2] using this
theorem take_ix {α : Type} [Inhabited α] (ps : List α) {i : Int} (h0 : 0 ≤ i) (h1 : i < ps.length) : ps.take (i + 1).toNat = ps.take i.toNat ++ [ix ps i] := by
  have h : i.toNat < ps.length := by omega
  rw [show (i + 1).toNat = i.toNat + 1 by omega, List.take_succ_eq_append_getElem h]
  simp [ix, h]
theorem sl_eq {a b : List (List D)} (h : a = b) : ([.sl a] : List D) = [.sl b] := by rw [h]
theorem rs1 {a c : List D} (h1 : a = c) : ([a] : List (List D)) = [c] := by rw [h1]
theorem rs2 {a b c d : List D} (h1 : a = c) (h2 : b = d) : ([a, b] : List (List D)) = [c, d] := by rw [h1, h2]
theorem bo_eq {a b : Bool} (h : a = b) : ([.bool a] : List D) = [.bool b] := by rw [h]
theorem rb {a b : Bool} (h : a = b) : ([[.bool a]] : List (List D)) = [[.bool b]] := by rw [h]
theorem ri {a b : Int} (h : a = b) : ([[.int .i64 a]] : List (List D)) = [[.int .i64 b]] := by rw [h]
theorem tD {p : Prop} [Decidable p] (h : p) : true = decide p := by simp [h]
theorem fD {p : Prop} [Decidable p] (h : ¬ p) : false = decide p := by simp [h]

/-! Short names of the equations that a run uses. -/
def z0 := @cI_U
def z1 := @cI_P2_0
def z2 := @cI_P2_1
def z3 := @cI_Pk_0
def z4 := @cI_Pk_1
def z5 := @cL_Pk_2
def z6 := @cL_Pk_3
def z7 := @cI_St_0
def z8 := @cI_St_1
def z9 := @cI_St_2
def z10 := @cL_St_3
def z11 := @cI_I
def z12 := @cB_B
def z13 := @List.length_map
def z14 := @decide_eq_true_eq
def z15 := @decide_eq_false_iff_not
def z16 := @Bool.not_eq_true'
def z17 := @Bool.not_eq_false'
def z18 := @Bool.not_not
def z19 := @ge_iff_le
def z20 := @gt_iff_lt
def z21 := @beq_iff_eq
def z22 := @bne_iff_ne
def z23 := @beq_eq_false_iff_ne
def z24 := @bne_eq_false_iff_eq
def z25 := @ne_eq
def z28 := @Bool.and_true
def z29 := @Bool.true_and
def z30 := @Bool.and_eq_true
def z31 := @beq_self_eq_true
def z32 := @Bool.and_self
def z33 := @Bool.bne_true
def z34 := @Bool.bne_false
def z35 := @Bool.not_eq_true
def z36 := @Bool.and_eq_false_imp
def z37 := @Nat.zero_add
def z39 := @Nat.succ_eq_add_one
def z40 := @Bool.false_eq_true
def z41 := @Bool.true_eq_false

end V
end Go.Proofs.Ytgialjcichiaoaa

