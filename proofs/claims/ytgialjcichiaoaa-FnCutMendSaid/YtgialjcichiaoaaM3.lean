/-
Part 3 of the proof of the claimed statement (its last part holds the theorem, and says what is proved). Conditions: none.
-/
import Derived.Test.YtgialjcichiaoaaM2
import Derived.ChangeSame
import Derived.ChangeSlices
import Derived.JoinedOf
import Derived.JoinedAt
import Derived.RowKit3
import Derived.Lib.SliceRun
import Derived.Test.YtgialjcichiaoaaProg
import Derived.KernelRfl
set_option linter.all false
/-
A machine that runs a function's code up to the next thing that is asked; its state is data.
-/
namespace Go.Proofs.Ytgialjcichiaoaa
namespace V

/-- What a slot holds; a truth that is known is kept apart. -/
inductive Cv where
  | lit (b : Bool)
  | val (c : List D)
def Cv.cells : Cv → List D
  | .lit b => [.bool b]
  | .val c => c
theorem cells_val (c : List D) : (Cv.val c).cells = c := rfl
theorem cells_lit (b : Bool) : (Cv.lit b).cells = [.bool b] := rfl
abbrev Sm := List (Nat × Cv)
noncomputable def lm (l : Sm) (e : Env) (s : Nat) : Cv :=
  List.rec (motive := fun _ => Cv) (.val (e s)) (fun p _ ih => match Nat.beq s p.1 with | true => p.2 | false => ih) l
/-- The slots, as they are. -/
noncomputable def ev (l : Sm) (e : Env) : Env := fun s => (lm l e s).cells
theorem ev_cons (d : Nat) (c : Cv) (l : Sm) (e : Env) : ev ((d, c) :: l) e = put (ev l e) d c.cells := by
  funext s
  show (match Nat.beq s d with | true => c | false => lm l e s).cells = _
  simp only [put, ev]
  cases h : Nat.beq s d with
  | true => rw [if_pos (Nat.eq_of_beq_eq_true h)]
  | false => rw [if_neg (fun k => by rw [k, Nat.beq_refl] at h; cases h)]
noncomputable def ogm (l : Sm) (e : Env) : Opd → Cv
  | .t s => lm l e s
  | .c (.bool b) => .lit b
  | .c d => .val [d]
theorem ogm_get (l : Sm) (e : Env) (x : Opd) : (ogm l e x).cells = x.get (ev l e) := by
  cases x with
  | t s => rfl
  | c d => cases d <;> rfl

inductive Fr where
  | ss (ps : List PS)
  | pc (p : PC)
  | blk (id : Nat)
  | lp (k : Nat)

inductive Ev where
  | stuck
  | norm (l : Sm)
  | exit (id : Nat) (l : Sm)
  | ret (vs : List (List D)) (l : Sm)
  | next (k : Nat) (l : Sm)
  | need (P : Prop) (fs : List Fr) (l : Sm)
  | ite (t : Bool) (fs1 : List Fr) (l1 : Sm) (fs2 : List Fr) (l2 : Sm)
  | call (f : Nat) (sig : Sig) (ins : List (List D)) (bs : List Nat) (d : Nat) (fs : List Fr) (l : Sm)
  | callc (f : Nat) (sig : Sig) (fn : List D) (ins : List (List D)) (d : Nat) (fs : List Fr) (l : Sm)
  | fb (p : PS) (fs : List Fr) (l : Sm)
  | loop (a : PC) (fs : List Fr) (l : Sm)

def fD' (d : D) (K : D → Ev) : Ev :=
  match d with
  | .int k n => K (.int k n)
  | .bool b => K (.bool b)
  | .str s => K (.str s)
  | .sl l => K (.sl l)
  | d => K d
noncomputable def fL (c : List D) (K : List D → Ev) : Ev :=
  List.rec (motive := fun _ => (List D → Ev) → Ev) (fun K => K []) (fun d _ ih K => fD' d fun d => ih fun r => K (d :: r)) c K
noncomputable def fLs (cs : List (List D)) (K : List (List D) → Ev) : Ev :=
  List.rec (motive := fun _ => (List (List D) → Ev) → Ev) (fun K => K []) (fun c _ ih K => fL c fun c => ih fun r => K (c :: r)) cs K
theorem fD_eq (d : D) (K : D → Ev) : fD' d K = K d := by cases d <;> rfl
theorem fL_eq : ∀ (c : List D) (K : List D → Ev), fL c K = K c
  | [], _ => rfl
  | d :: r, K => by
    show fD' d (fun d => fL r fun r => K (d :: r)) = _
    rw [fD_eq, fL_eq r]
theorem fLs_eq : ∀ (c : List (List D)) (K : List (List D) → Ev), fLs c K = K c
  | [], _ => rfl
  | d :: r, K => by
    show fL d (fun d => fLs r fun r => K (d :: r)) = _
    rw [fL_eq, fLs_eq r]
/-- A slot is written. -/
noncomputable def wE (d : Nat) (c : List D) (l : Sm) (K : Sm → Ev) : Ev := fL c fun c => K ((d, .val c) :: l)
theorem wE_eq (d : Nat) (c : List D) (l : Sm) (K : Sm → Ev) : wE d c l K = K ((d, .val c) :: l) := by rw [wE, fL_eq]
def okE (o : Option (List D)) (K : List D → Ev) : Ev := match o with | some c => K c | none => .stuck
noncomputable def insE (l : Sm) (e : Env) (xs : List Opd) : List (List D) :=
  List.rec (motive := fun _ => List (List D)) [] (fun x _ ih => (ogm l e x).cells :: ih) xs
theorem insE_eq (l : Sm) (e : Env) (xs : List Opd) : insE l e xs = xs.map (·.get (ev l e)) := by
  induction xs with
  | nil => rfl
  | cons x xs ih => show (ogm l e x).cells :: insE l e xs = _; rw [ih, ogm_get]; rfl
noncomputable def retE (l : Sm) (e : Env) (xs : List Nat) : List (List D) :=
  List.rec (motive := fun _ => List (List D)) [] (fun x _ ih => (lm l e x).cells :: ih) xs
theorem retE_eq (l : Sm) (e : Env) (xs : List Nat) : retE l e xs = xs.map (ev l e) := by
  induction xs with
  | nil => rfl
  | cons x xs ih => show (lm l e x).cells :: retE l e xs = _; rw [ih]; rfl
noncomputable def fGs (l : Sm) (e : Env) (gs : List (Bool × Opd)) (K : List (Bool × List D) → Ev) : Ev :=
  List.rec (motive := fun _ => (List (Bool × List D) → Ev) → Ev) (fun K => K []) (fun p _ ih K => fL (ogm l e p.2).cells fun c => ih fun r => K ((p.1, c) :: r)) gs K
theorem fGs_eq (l : Sm) (e : Env) : ∀ (gs : List (Bool × Opd)) (K : List (Bool × List D) → Ev), fGs l e gs K = K (gs.map fun p => (p.1, p.2.get (ev l e)))
  | [], _ => rfl
  | p :: r, K => by
    show fL (ogm l e p.2).cells (fun c => fGs l e r fun r => K ((p.1, c) :: r)) = _
    rw [fL_eq, fGs_eq l e r, ogm_get]
    rfl
noncomputable def idE (l : Sm) (e : Env) (o : Option Opd) (dft : Int) : Option Int :=
  match o with
  | none => some dft
  | some x => match (ogm l e x).cells with
    | [.int _ n] => some n
    | _ => none

def binE (op : BinOp) (a b : List D) (fs : List Fr) (d : Nat) (l : Sm) (K : List D → Ev) : Ev :=
  match op with
  | .quo => match a, b with
    | [.int k x], [.int k' y] => match decide (k = k') with
      | true => .need (y ≠ 0) fs ((d, .val [.int k (k.wrap (x.tdiv y))]) :: l)
      | false => .stuck
    | _, _ => .stuck
  | .rem => match a, b with
    | [.int k x], [.int k' y] => match decide (k = k') with
      | true => .need (y ≠ 0) fs ((d, .val [.int k (x.tmod y)]) :: l)
      | false => .stuck
    | _, _ => .stuck
  | op => okE (two (binV op) a b) K

/-- One statement that is no guard; fs is what is left behind it. -/
noncomputable def psK (e : Env) (fs : List Fr) (p : PS) (l : Sm) (K : Sm → Ev) : Ev :=
  match p with
  | .nop => K l
  | .mv d x => match ogm l e x with
    | .lit b => K ((d, .lit b) :: l)
    | .val c => wE d c l K
  | .sub d s off n => match Nat.ble (off + n) (lm l e s).cells.length with
    | true => wE d (((lm l e s).cells.drop off).take n) l K
    | false => .stuck
  | .ext d s off n => match Nat.ble (off + n) (lm l e s).cells.length with
    | true => wE d (((lm l e s).cells.drop off).take n) l K
    | false => .stuck
  | .bld d z ps => wE d (bldP (ev l e) z ps) l K
  | .lit d n z ps => fLs (litP (ev l e) (List.replicate n z) ps) fun xs => K ((d, .val [.sl xs]) :: l)
  | .st b off x => match Nat.ble (off + (ogm l e x).cells.length) (lm l e b).cells.length with
    | true => wE b (splice (lm l e b).cells off (ogm l e x).cells) l K
    | false => .stuck
  | .bin d op x y => binE op (ogm l e x).cells (ogm l e y).cells fs d l fun c => wE d c l K
  | .un d op x => match op, ogm l e x with
    | .not, .lit b => K ((d, .lit (!b)) :: l)
    | op, v => okE (one (unV op) v.cells) fun c => wE d c l K
  | .beq d neg x y => okE (beqV neg (ogm l e x).cells (ogm l e y).cells) fun c => wE d c l K
  | .eqs d neg zs x y => fL (ogm l e x).cells fun a => fL (ogm l e y).cells fun b => match fits zs a && fits zs b with
    | true => K ((d, .val [.bool (eqDs a b != neg)]) :: l)
    | false => .stuck
  | .pick d c a b => match ogm l e c with
    | .lit true => match ogm l e a with
      | .lit v => K ((d, .lit v) :: l)
      | .val v => wE d v l K
    | .lit false => match ogm l e b with
      | .lit v => K ((d, .lit v) :: l)
      | .val v => wE d v l K
    | .val [.bool t] => .ite t (.ss [.mv d a] :: fs) l (.ss [.mv d b] :: fs) l
    | _ => .stuck
  | .elp d x i sz => match (ogm l e x).cells, (ogm l e i).cells with
    | [.sl xs], [.int k n] => .need (ElpOk xs n sz) fs ((d, .val [.sl xs, .int k n]) :: l)
    | _, _ => .stuck
  | .eld d s off zs => match (lm l e s).cells with
    | [.sl xs, .int _ n] => fL (rd xs n off zs) fun c => .need (EldOk xs n off zs) fs ((d, .val c) :: l)
    | _ => .stuck
  | .len d x => match (ogm l e x).cells with
    | [.sl xs] => K ((d, .val [.int .i64 xs.length]) :: l)
    | _ => .stuck
  | .app d sz sc x y => match (ogm l e x).cells, (ogm l e y).cells with
    | [.sl xs], [.sl ys] => .need (AppOk sz sc xs ys) fs ((d, .val [.sl (xs ++ ys)]) :: l)
    | _, _ => .stuck
  | .mk d z n c => match (ogm l e n).cells, (ogm l e c).cells with
    | [.int _ k], [.int _ m] => .need (0 ≤ k ∧ k ≤ m ∧ m ≤ lim) fs ((d, .val [.sl (List.replicate k.toNat z)]) :: l)
    | _, _ => .stuck
  | .cvt d k x => match (ogm l e x).cells with
    | [.int _ n] => K ((d, .val [.int k (k.wrap n)]) :: l)
    | _ => .stuck
  | .els s off h i x => match (lm l e s).cells with
    | [.sl xs, .int _ k] => match (lm l e h).cells[i]? with
      | some (.sl ys) => fL (ogm l e x).cells fun c => fL ((lm l e h).cells.set i (.sl (elsV ys k off c))) fun r => .need (ElsOk xs ys k off c) fs ((h, .val r) :: l)
      | _ => .stuck
    | _ => .stuck
  | .fn d g gs cs => fGs l e gs fun gv => fLs (retE l e cs) fun cv => K ((d, .val [.fn g gv cv]) :: l)
  | .min d x y => match (ogm l e x).cells, (ogm l e y).cells with
    | [.int k a], [.int k' b] => match decide (k = k') with
      | true => K ((d, .val [.int k (if b < a then b else a)]) :: l)
      | false => .stuck
    | _, _ => .stuck
  | .bxp d i len => match (ogm l e i).cells with
    | [.int k n] => .need (0 ≤ n ∧ n < len) fs ((d, .val [.int k n]) :: l)
    | _ => .stuck
  | .lsl d sz x lo hi mx => match (ogm l e x).cells with
    | [.sl xs] => match idE l e lo 0, idE l e hi xs.length, isNo mx with
      | some a, some b, true => .need (LslOk sz xs a b) fs ((d, .val [.sl ((xs.take b.toNat).drop a.toNat)]) :: l)
      | _, _, _ => .stuck
    | _ => .stuck
  | .call d f sig aas bs => fLs (insE l e aas) fun ins => .call f sig ins bs d fs l
  | .callc d s f sig aas => fLs (insE l e aas) fun ins => .callc f sig (lm l e s).cells ins d fs l
  | .g _ _ _ _ => .stuck
  | p => .fb p fs l

/-- Where an exit goes on. -/
noncomputable def unw (id : Nat) (fs : List Fr) : Option (List Fr) :=
  List.rec (motive := fun _ => Option (List Fr)) none (fun f r ih => match f with
    | .blk j => match Nat.beq id j with
      | true => some r
      | false => ih
    | _ => ih) fs

/-- A guard: what a slot says. -/
def gE (v : Cv) (b : Bool) (yes no : Ev) (it : Bool → Ev) : Ev :=
  match v with
  | .lit true => match b with
    | true => yes
    | false => no
  | .lit false => match b with
    | false => yes
    | true => no
  | .val [.bool t] => it t
  | .val [] => no
  | _ => .stuck

noncomputable def run (n : Nat) (e : Env) (fs : List Fr) (l : Sm) : Ev :=
  Nat.rec (motive := fun _ => List Fr → Sm → Ev) (fun _ _ => .stuck) (fun _ ih fs l => match fs with
    | [] => .norm l
    | .blk _ :: fs => ih fs l
    | .lp k :: _ => .next k l
    | .ss [] :: fs => ih fs l
    | .ss (.g s b d p :: ps) :: fs => gE (lm l e s) b (psK e (.ss ps :: fs) p l fun l => ih (.ss ps :: fs) l) (ih (.ss ps :: fs) ((d, .val []) :: l)) fun t => .ite t (.ss (.g s b d p :: ps) :: fs) ((s, .lit true) :: l) (.ss (.g s b d p :: ps) :: fs) ((s, .lit false) :: l)
    | .ss (p :: ps) :: fs => psK e (.ss ps :: fs) p l fun l => ih (.ss ps :: fs) l
    | .pc .skip :: fs => ih fs l
    | .pc .fail :: _ => .stuck
    | .pc (.ss ps) :: fs => ih (.ss ps :: fs) l
    | .pc (.seq a b) :: fs => ih (.pc a :: .pc b :: fs) l
    | .pc (.cond (.t s) a b) :: fs => match lm l e s with
      | .lit true => ih (.pc a :: fs) l
      | .lit false => ih (.pc b :: fs) l
      | .val [.bool t] => .ite t (.pc a :: fs) ((s, .lit true) :: l) (.pc b :: fs) ((s, .lit false) :: l)
      | _ => .stuck
    | .pc (.cond (.c (.bool v)) a b) :: fs => match v with
      | true => ih (.pc a :: fs) l
      | false => ih (.pc b :: fs) l
    | .pc (.cond _ _ _) :: _ => .stuck
    | .pc (.block id a) :: fs => ih (.pc a :: .blk id :: fs) l
    | .pc (.loop a) :: fs => .loop a fs l
    | .pc (.exit id) :: fs => match unw id fs with
      | some fs' => ih fs' l
      | none => .exit id l
    | .pc (.ret rs) :: _ => fLs (retE l e rs) fun vs => .ret vs l) n fs l

noncomputable def nxt (Ns : List (Env → Prop)) (k : Nat) : Env → Prop :=
  List.rec (motive := fun _ => Env → Prop) (fun _ => False) (fun N r ih => match Nat.beq k r.length with | true => N | false => ih) Ns

section
variable (Φ : Ask) (Q : PX → Env → Prop) (Ns : List (Env → Prop))
/-- What frames mean. -/
def after : List Fr → PX → Env → Prop
  | [], x, E => Q x E
  | .ss ps :: r, x, E => match x with
    | .normal => ∃ E', PRels Φ ps E E' ∧ after r .normal E'
    | x => after r x E
  | .pc p :: r, x, E => match x with
    | .normal => pwp Φ p (after r) E
    | x => after r x E
  | .blk id :: r, x, E => match x with
    | .exit i => if i = id then after r .normal E else after r (.exit i) E
    | x => after r x E
  | .lp k :: r, x, E => match x with
    | .normal => nxt Ns k E
    | x => after r x E

structure RunM (e : Env) (fs : List Fr) (l : Sm) : Prop where
  h : after Φ Q Ns fs .normal (ev l e)

noncomputable def putsM (l : Sm) (bs : List Nat) (cs : List (List D)) : Sm :=
  List.rec (motive := fun _ => List (List D) → Sm → Sm) (fun _ l => l) (fun b _ ih cs l => match cs with | [] => l | c :: cs => ih cs ((b, .val c) :: l)) bs cs l

def den (e : Env) : Ev → Prop
  | .stuck => False
  | .norm l => Q .normal (ev l e)
  | .exit id l => Q (.exit id) (ev l e)
  | .ret vs l => Q (.ret vs) (ev l e)
  | .next k l => nxt Ns k (ev l e)
  | .need P fs l => P ∧ RunM Φ Q Ns e fs l
  | .ite t fs1 l1 fs2 l2 => (t = true → RunM Φ Q Ns e fs1 l1) ∧ (t = false → RunM Φ Q Ns e fs2 l2)
  | .call f sig ins bs d fs l => callP Φ f sig ins bs.length fun rs xs => RunM Φ Q Ns e fs ((d, .val rs.flatten) :: putsM l bs xs)
  | .callc f sig fn ins d fs l => callcP Φ f sig fn ins fun rs => RunM Φ Q Ns e fs ((d, .val rs.flatten) :: l)
  | .fb p fs l => ∃ c, pstep p (ev l e) = some (put (ev l e) (dstOf p) c) ∧ RunM Φ Q Ns e fs ((dstOf p, .val c) :: l)
  | .loop a fs l => pwp Φ (.loop a) (after Φ Q Ns fs) (ev l e)
end

theorem ev_puts (e : Env) : ∀ (bs : List Nat) (cs : List (List D)) (l : Sm), ev (putsM l bs cs) e = putAll (ev l e) bs cs
  | [], [], _ => rfl
  | [], _ :: _, _ => rfl
  | _ :: _, [], _ => rfl
  | b :: bs, c :: cs, l => by
    show ev (putsM ((b, .val c) :: l) bs cs) e = _
    rw [ev_puts e bs cs, ev_cons, putAll]; rfl
theorem ev_self {l : Sm} {e : Env} {s : Nat} {c : Cv} (h : (lm l e s).cells = c.cells) : ev ((s, c) :: l) e = ev l e := by
  rw [ev_cons]
  funext k
  simp only [put]
  split
  · rename_i hk; rw [hk]; exact h.symm
  · rfl

theorem idE_ok {l : Sm} {e : Env} {o : Option Opd} {dft : Nat} {n : Int} (h : idE l e o dft = some n) (h0 : 0 ≤ n) : idx (ev l e) o dft = some n.toNat := by
  unfold idE at h
  unfold idx
  cases o with
  | none => cases h; rfl
  | some x =>
    dsimp only at h ⊢
    rw [← ogm_get]
    split at h
    · rename_i k m hm
      cases h
      rw [hm]
      dsimp only
      rw [if_pos h0]
    · cases h

section
variable {Φ : Ask} {Q : PX → Env → Prop} {Ns : List (Env → Prop)} {e : Env} {fs : List Fr}

theorem psK_ok (p : PS) (l : Sm) (K : Sm → Ev) (hK : ∀ l', den Φ Q Ns e (K l') → after Φ Q Ns fs .normal (ev l' e)) (h : den Φ Q Ns e (psK e fs p l K)) :
    ∃ E', PRel Φ p (ev l e) E' ∧ after Φ Q Ns fs .normal E' := by
  have go : ∀ (d : Nat) (c : Cv), pstep p (ev l e) = some (put (ev l e) d c.cells) → (PRel Φ p (ev l e) (put (ev l e) d c.cells) ↔ pstep p (ev l e) = some (put (ev l e) d c.cells)) → den Φ Q Ns e (K ((d, c) :: l)) → ∃ E', PRel Φ p (ev l e) E' ∧ after Φ Q Ns fs .normal E' :=
    fun d c h1 h2 h3 => ⟨_, h2.2 h1, by have := hK _ h3; rwa [ev_cons] at this⟩
  have gw : ∀ (d : Nat) (c : List D), den Φ Q Ns e (wE d c l K) → pstep p (ev l e) = some (put (ev l e) d c) → (PRel Φ p (ev l e) (put (ev l e) d c) ↔ pstep p (ev l e) = some (put (ev l e) d c)) → ∃ E', PRel Φ p (ev l e) E' ∧ after Φ Q Ns fs .normal E' :=
    fun d c h3 h1 h2 => go d (.val c) h1 h2 (by rwa [wE_eq] at h3)
  have gn : ∀ (d : Nat) (c : Cv), RunM Φ Q Ns e fs ((d, c) :: l) → pstep p (ev l e) = some (put (ev l e) d c.cells) → (PRel Φ p (ev l e) (put (ev l e) d c.cells) ↔ pstep p (ev l e) = some (put (ev l e) d c.cells)) → ∃ E', PRel Φ p (ev l e) E' ∧ after Φ Q Ns fs .normal E' :=
    fun d c h3 h1 h2 => ⟨_, h2.2 h1, by have := h3.h; rwa [ev_cons] at this⟩
  have el : ∀ s, (lm l e s).cells = ev l e s := fun s => rfl
  cases p with
  | nop => exact ⟨_, rfl, hK _ h⟩
  | mv d x =>
    simp only [psK] at h
    split at h
    · rename_i b hb
      exact go d _ (by simp only [pstep, ← ogm_get, hb]) Iff.rfl h
    · rename_i c hc
      exact gw d _ h (by simp only [pstep, ← ogm_get, hc, cells_val, cells_lit]) Iff.rfl
  | sub d s off n =>
    simp only [psK] at h
    split at h
    · rename_i hb
      exact gw d _ h (by simp only [pstep]; exact if_pos (Nat.le_of_ble_eq_true hb)) Iff.rfl
    · exact h.elim
  | ext d s off n =>
    simp only [psK] at h
    split at h
    · rename_i hb
      exact gw d _ h (by simp only [pstep]; exact if_pos (Nat.le_of_ble_eq_true hb)) Iff.rfl
    · exact h.elim
  | bld d z ps => exact gw d _ h rfl Iff.rfl
  | lit d n z ps => simp only [psK, fLs_eq] at h; exact go d (.val _) rfl Iff.rfl h
  | st b off x =>
    simp only [psK] at h
    split at h
    · rename_i hb
      rw [ogm_get] at hb
      exact gw b _ h (by simp only [pstep, ogm_get]; exact if_pos (Nat.le_of_ble_eq_true hb)) Iff.rfl
    · exact h.elim
  | bin d op x y =>
    simp only [psK] at h
    unfold binE at h
    split at h
    · split at h
      · rename_i k a k' b hx hy
        split at h
        · rename_i hk
          obtain rfl := of_decide_eq_true hk
          exact gn d _ h.2 (by simp only [pstep, ← ogm_get, hx, hy, two, binV, binInt, if_neg h.1, if_true, Option.map_some, cells_val]) Iff.rfl
        · exact h.elim
      · exact h.elim
    · split at h
      · rename_i k a k' b hx hy
        split at h
        · rename_i hk
          obtain rfl := of_decide_eq_true hk
          exact gn d _ h.2 (by simp only [pstep, ← ogm_get, hx, hy, two, binV, binInt, if_neg h.1, if_true, Option.map_some, cells_val]) Iff.rfl
        · exact h.elim
      · exact h.elim
    · simp only [okE] at h
      split at h
      · rename_i c hc
        exact gw d c h (by simp only [pstep, ← ogm_get, hc, Option.map_some]) Iff.rfl
      · exact h.elim
  | un d op x =>
    simp only [psK, okE] at h
    split at h
    · rename_i b hb
      exact go d _ (by simp only [pstep, ← ogm_get, hb]; rfl) Iff.rfl h
    · split at h
      · rename_i c hc
        exact gw d c h (by simp only [pstep, ← ogm_get, hc, Option.map_some]) Iff.rfl
      · exact h.elim
  | beq d neg x y =>
    simp only [psK, okE] at h
    split at h
    · rename_i c hc
      refine gw d c h ?_ Iff.rfl
      simp only [pstep, ← ogm_get]
      unfold beqV at hc
      split at hc
      · rename_i h1 h2; rw [h1, h2]; cases hc; rfl
      · cases hc
    · exact h.elim
  | eqs d neg zs x y =>
    simp only [psK, fL_eq] at h
    split at h
    · rename_i hb
      exact go d (.val _) (by simp only [pstep, ← ogm_get]; rw [if_pos hb]; rfl) Iff.rfl h
    · exact h.elim
  | pick d c a b =>
    simp only [psK] at h
    split at h
    · rename_i hc
      have hc' := ogm_get l e c
      rw [hc] at hc'
      split at h
      · rename_i v hv
        exact go d _ (by simp only [pstep, ← hc', cells_val, cells_lit, if_true, ← ogm_get, hv]) Iff.rfl h
      · rename_i v hv
        exact gw d _ h (by simp only [pstep, ← hc', cells_val, cells_lit, if_true, ← ogm_get, hv]) Iff.rfl
    · rename_i hc
      have hc' := ogm_get l e c
      rw [hc] at hc'
      split at h
      · rename_i v hv
        exact go d _ (by simp only [pstep, ← hc', cells_val, cells_lit, Bool.false_eq_true, if_false, ← ogm_get, hv]) Iff.rfl h
      · rename_i v hv
        exact gw d _ h (by simp only [pstep, ← hc', cells_val, cells_lit, Bool.false_eq_true, if_false, ← ogm_get, hv]) Iff.rfl
    · rename_i t hc
      have hc' := ogm_get l e c
      rw [hc] at hc'
      cases t with
      | true =>
        obtain ⟨E', ⟨E1, h1, rfl⟩, h3⟩ := (h.1 rfl).h
        refine ⟨E', ?_, h3⟩
        have h1 : some (put (ev l e) d (a.get (ev l e))) = some E' := h1
        show pstep _ _ = _
        simp only [pstep, ← hc', cells_val, cells_lit, if_true]; exact h1
      | false =>
        obtain ⟨E', ⟨E1, h1, rfl⟩, h3⟩ := (h.2 rfl).h
        refine ⟨E', ?_, h3⟩
        have h1 : some (put (ev l e) d (b.get (ev l e))) = some E' := h1
        show pstep _ _ = _
        simp only [pstep, ← hc', cells_val, cells_lit, Bool.false_eq_true, if_false]; exact h1
    · exact h.elim
  | elp d x i sz =>
    simp only [psK] at h
    split at h
    · rename_i xs k n h1 h2
      obtain ⟨⟨h0, y, hy, hl⟩, hk⟩ := h
      exact gn d _ hk (by simp only [pstep, ← ogm_get, h1, h2, if_pos h0, hy, if_pos hl, cells_val, cells_lit]) Iff.rfl
    · exact h.elim
  | eld d s off zs =>
    simp only [psK] at h
    split at h
    · rename_i xs k n h1
      rw [fL_eq] at h
      obtain ⟨⟨y, hy, hl, hkd⟩, hk⟩ := h
      refine gn d _ hk ?_ Iff.rfl
      have h1' : ev l e s = [.sl xs, .int k n] := h1
      simp only [pstep, h1', hy, cells_val, cells_lit]
      rw [if_pos (by simp [hl, hkd]), rd_ok hy zs off hl hkd]
    · exact h.elim
  | len d x =>
    simp only [psK] at h
    split at h
    · rename_i xs h1
      exact go d _ (by simp only [pstep, ← ogm_get, h1, cells_val, cells_lit]) Iff.rfl h
    · exact h.elim
  | app d sz sc x y =>
    simp only [psK] at h
    split at h
    · rename_i xs ys h1 h2
      obtain ⟨h3, hk⟩ := h
      exact gn d _ hk (by simp only [pstep, ← ogm_get, h1, h2]; exact if_pos h3) Iff.rfl
    · exact h.elim
  | mk d z n c =>
    simp only [psK] at h
    split at h
    · rename_i k m h1 h2
      obtain ⟨h3, hk⟩ := h
      exact gn d _ hk (by simp only [pstep, ← ogm_get, h1, h2]; exact if_pos h3) Iff.rfl
    · exact h.elim
  | cvt d k x =>
    simp only [psK] at h
    split at h
    · rename_i n h1
      exact go d _ (by simp only [pstep, ← ogm_get, h1, cells_val, cells_lit]) Iff.rfl h
    · exact h.elim
  | els s off hh i x =>
    simp only [psK] at h
    split at h
    · rename_i xs k n h1
      split at h
      · rename_i ys h2
        rw [fL_eq, fL_eq] at h
        obtain ⟨⟨a, b, ha, hb, hab, ho⟩, hk⟩ := h
        refine gn _ _ hk ?_ Iff.rfl
        have h1' : ev l e s = [.sl xs, .int k n] := h1
        have h2' : (ev l e hh)[i]? = some (.sl ys) := h2
        rw [ogm_get] at ho
        simp only [pstep, h1', h2', ha, hb, cells_val, cells_lit]
        rw [if_pos ⟨hab, ho⟩]
        simp only [elsV, List.getD_eq_getElem?_getD, hb, Option.getD_some, ogm_get]
        rfl
      · exact h.elim
    · exact h.elim
  | bxp d i len =>
    simp only [psK] at h
    split at h
    · rename_i k n h1
      obtain ⟨h3, hk⟩ := h
      exact gn d _ hk (by simp only [pstep, ← ogm_get, h1]; exact if_pos h3) Iff.rfl
    · exact h.elim
  | min d x y =>
    simp only [psK] at h
    split at h
    · rename_i k a k' b h1 h2
      split at h
      · rename_i hk
        exact go d _ (by simp only [pstep, ← ogm_get, h1, h2]; exact if_pos (of_decide_eq_true hk)) Iff.rfl h
      · exact h.elim
    · exact h.elim
  | fn d g gs cs =>
    simp only [psK, fGs_eq, fLs_eq, retE_eq] at h
    exact go d (.val _) rfl Iff.rfl h
  | lsl d sz x lo hi mx =>
    simp only [psK] at h
    split at h
    · rename_i xs h1
      split at h
      · rename_i a b h2 h3 h4
        obtain ⟨⟨p1, p2, p3, p4⟩, hk⟩ := h
        have e1 := idE_ok (dft := 0) h2 p1
        have e2 := idE_ok h3 (by omega)
        have hm : mx = none := by cases mx with | none => rfl | some _ => cases h4
        subst hm
        refine gn d _ hk ?_ Iff.rfl
        simp only [pstep, ← ogm_get, h1, e1, e2]
        rw [show idx (ev l e) none b.toNat = some b.toNat from rfl]
        dsimp only
        exact if_pos ⟨by omega, by omega, .inl (by simp), p4⟩
      · exact h.elim
    · exact h.elim
  | call d f sig aas bs =>
    simp only [psK, fLs_eq] at h
    obtain ⟨rs, xs, h1, h2, h3, h4⟩ := h
    exact ⟨_, ⟨rs, xs, by rw [← insE_eq]; exact h1, h2, h3, rfl⟩, by have := h4.h; rwa [ev_cons, ev_puts] at this⟩
  | callc d s f sig aas =>
    simp only [psK, fLs_eq] at h
    obtain ⟨gs, cs, rs, h1, h2, h3, h4, h5, h6, h7, h8⟩ := h
    rw [insE_eq] at h2 h5 h6
    rw [List.length_map] at h2 h5
    exact ⟨_, ⟨gs, cs, rs, h1, h2, h3, h4, h5, h6, h7, rfl⟩, by have := h8.h; rwa [ev_cons] at this⟩
  | g s b d p => exact h.elim
  | bxl d s b es off n => obtain ⟨c, h1, h2⟩ := h; exact gn _ (.val c) h2 h1 Iff.rfl
  | bxs s b es off x => obtain ⟨c, h1, h2⟩ := h; exact gn _ (.val c) h2 h1 Iff.rfl
  | slen d x => obtain ⟨c, h1, h2⟩ := h; exact gn _ (.val c) h2 h1 Iff.rfl
  | sidx d x i => obtain ⟨c, h1, h2⟩ := h; exact gn _ (.val c) h2 h1 Iff.rfl
  | ssl d x lo hi => obtain ⟨c, h1, h2⟩ := h; exact gn _ (.val c) h2 h1 Iff.rfl
  | s2b d x => obtain ⟨c, h1, h2⟩ := h; exact gn _ (.val c) h2 h1 Iff.rfl
  | b2s d x => obtain ⟨c, h1, h2⟩ := h; exact gn _ (.val c) h2 h1 Iff.rfl
  | i2s d x => obtain ⟨c, h1, h2⟩ := h; exact gn _ (.val c) h2 h1 Iff.rfl

theorem after_ret (vs : List (List D)) {E : Env} : ∀ (fs : List Fr), Q (.ret vs) E → after Φ Q Ns fs (.ret vs) E
  | [], h => h
  | .ss _ :: r, h => after_ret vs r h
  | .pc _ :: r, h => after_ret vs r h
  | .blk _ :: r, h => after_ret vs r h
  | .lp _ :: r, h => after_ret vs r h
theorem unw_none (id : Nat) {E : Env} : ∀ (fs : List Fr), unw id fs = none → Q (.exit id) E → after Φ Q Ns fs (.exit id) E
  | [], _, h => h
  | .ss _ :: r, hu, h => unw_none id r hu h
  | .pc _ :: r, hu, h => unw_none id r hu h
  | .lp _ :: r, hu, h => unw_none id r hu h
  | .blk j :: r, hu, h => by
    have hu : (match Nat.beq id j with | true => some r | false => unw id r) = none := hu
    split at hu
    · cases hu
    · rename_i hb
      show (if id = j then _ else _)
      rw [if_neg (fun k => by rw [k, Nat.beq_refl] at hb; cases hb)]
      exact unw_none id r hu h
theorem unw_some (id : Nat) {E : Env} {fs' : List Fr} : ∀ (fs : List Fr), unw id fs = some fs' → after Φ Q Ns fs' .normal E → after Φ Q Ns fs (.exit id) E
  | [], hu, _ => by cases hu
  | .ss _ :: r, hu, h => unw_some id r hu h
  | .pc _ :: r, hu, h => unw_some id r hu h
  | .lp _ :: r, hu, h => unw_some id r hu h
  | .blk j :: r, hu, h => by
    have hu : (match Nat.beq id j with | true => some r | false => unw id r) = some fs' := hu
    split at hu
    · rename_i hb
      show (if id = j then _ else _)
      rw [if_pos (Nat.eq_of_beq_eq_true hb)]
      cases hu
      exact h
    · rename_i hb
      show (if id = j then _ else _)
      rw [if_neg (fun k => by rw [k, Nat.beq_refl] at hb; cases hb)]
      exact unw_some id r hu h

theorem run_g_ok {n : Nat} (ih : ∀ (fs : List Fr) (l : Sm), den Φ Q Ns e (run n e fs l) → after Φ Q Ns fs .normal (ev l e)) (s : Nat) (b : Bool) (d : Nat) (p : PS) (ps : List PS) (fs : List Fr) (l : Sm)
    (h : den Φ Q Ns e (run (n + 1) e (.ss (.g s b d p :: ps) :: fs) l)) : after Φ Q Ns (.ss (.g s b d p :: ps) :: fs) .normal (ev l e) := by
  have yes : ev l e s = [.bool b] → den Φ Q Ns e (psK e (.ss ps :: fs) p l fun l => run n e (.ss ps :: fs) l) → after Φ Q Ns (.ss (.g s b d p :: ps) :: fs) .normal (ev l e) := fun hs h => by
    obtain ⟨E1, h1, E2, h2, h3⟩ := psK_ok p l _ (fun l' => ih _ l') h
    exact ⟨E2, ⟨E1, .inl ⟨hs, h1⟩, h2⟩, h3⟩
  have no : ev l e s ≠ [.bool b] → den Φ Q Ns e (run n e (.ss ps :: fs) ((d, .val []) :: l)) → after Φ Q Ns (.ss (.g s b d p :: ps) :: fs) .normal (ev l e) := fun hs h => by
    obtain ⟨E2, h2, h3⟩ := ih _ _ h
    rw [ev_cons] at h2
    exact ⟨E2, ⟨_, .inr ⟨hs, rfl⟩, h2⟩, h3⟩
  have h : den Φ Q Ns e (gE (lm l e s) b (psK e (.ss ps :: fs) p l fun l => run n e (.ss ps :: fs) l) (run n e (.ss ps :: fs) ((d, .val []) :: l)) fun t => .ite t (.ss (.g s b d p :: ps) :: fs) ((s, .lit true) :: l) (.ss (.g s b d p :: ps) :: fs) ((s, .lit false) :: l)) := h
  cases hv : lm l e s with
  | lit v =>
    have hs : ev l e s = [.bool v] := by show (lm l e s).cells = _; rw [hv]; rfl
    rw [hv] at h
    cases v <;> cases b
    · exact yes hs h
    · exact no (by rw [hs]; simp) h
    · exact no (by rw [hs]; simp) h
    · exact yes hs h
  | val c =>
    rw [hv] at h
    have hs : ev l e s = c := by show (lm l e s).cells = _; rw [hv]; rfl
    by_cases h0 : c = []
    · subst h0
      exact no (by rw [hs]; simp) h
    · by_cases h1 : ∃ t, c = [.bool t]
      · obtain ⟨t, rfl⟩ := h1
        cases t with
        | true => have := (h.1 rfl).h; rwa [ev_self (by rw [hv]; rfl)] at this
        | false => have := (h.2 rfl).h; rwa [ev_self (by rw [hv]; rfl)] at this
      · refine (?_ : False).elim
        unfold gE at h
        split at h
        · rename_i heq; cases heq
        · rename_i heq; cases heq
        · rename_i heq; cases heq; exact h1 ⟨_, rfl⟩
        · rename_i heq; cases heq; exact h0 rfl
        · exact h

theorem run_ok : ∀ (n : Nat) (fs : List Fr) (l : Sm), den Φ Q Ns e (run n e fs l) → after Φ Q Ns fs .normal (ev l e)
  | 0, _, _, h => h.elim
  | n + 1, fs, l, h => by
    have ih := run_ok n
    cases fs with
    | nil => exact h
    | cons f fs =>
    cases f with
    | blk id => exact ih fs l h
    | lp k => exact h
    | ss ps =>
      cases ps with
      | nil => exact ⟨_, rfl, ih fs l h⟩
      | cons p ps =>
        by_cases hg : ∃ s b d q, p = .g s b d q
        · obtain ⟨s, b, d, q, rfl⟩ := hg
          exact run_g_ok ih s b d q ps fs l h
        · have h : den Φ Q Ns e (psK e (.ss ps :: fs) p l fun l => run n e (.ss ps :: fs) l) := by
            cases p <;> first | exact h | exact (hg ⟨_, _, _, _, rfl⟩).elim
          obtain ⟨E1, h1, E2, h2, h3⟩ := psK_ok p l _ (fun l' => ih _ l') h
          exact ⟨E2, ⟨E1, h1, h2⟩, h3⟩
    | pc p =>
      cases p with
      | skip => exact ih fs l h
      | fail => exact h.elim
      | ss ps => exact ih (.ss ps :: fs) l h
      | seq a b =>
        have := ih (.pc a :: .pc b :: fs) l h
        refine pwp_mono a _ _ ?_ _ this
        intro x E hx
        cases x <;> exact hx
      | block id a =>
        have := ih (.pc a :: .blk id :: fs) l h
        refine pwp_mono a _ _ ?_ _ this
        intro x E hx
        cases x <;> exact hx
      | loop a => exact h
      | exit id =>
        have h : den Φ Q Ns e (match unw id fs with | some fs' => run n e fs' l | none => .exit id l) := h
        split at h
        · rename_i fs' hu; exact unw_some id fs hu (ih _ _ h)
        · rename_i hu; exact unw_none id fs hu h
      | ret rs =>
        have h : den Φ Q Ns e (fLs (retE l e rs) fun vs => .ret vs l) := h
        rw [fLs_eq, retE_eq] at h
        exact after_ret _ fs h
      | cond c a b =>
        cases c with
        | t s =>
          have h : den Φ Q Ns e (match lm l e s with
            | .lit true => run n e (.pc a :: fs) l
            | .lit false => run n e (.pc b :: fs) l
            | .val [.bool t] => .ite t (.pc a :: fs) ((s, .lit true) :: l) (.pc b :: fs) ((s, .lit false) :: l)
            | _ => .stuck) := h
          have hs : (lm l e s).cells = ev l e s := rfl
          split at h
          · rename_i hv; rw [hv] at hs; exact .inl ⟨hs.symm, ih _ _ h⟩
          · rename_i hv; rw [hv] at hs; exact .inr ⟨hs.symm, ih _ _ h⟩
          · rename_i t hv
            rw [hv] at hs
            cases t with
            | true => have := (h.1 rfl).h; rw [ev_self (by rw [hv]; rfl)] at this; exact .inl ⟨hs.symm, this⟩
            | false => have := (h.2 rfl).h; rw [ev_self (by rw [hv]; rfl)] at this; exact .inr ⟨hs.symm, this⟩
          · exact h.elim
        | c d =>
          cases d with
          | bool v =>
            cases v with
            | true => exact .inl ⟨rfl, ih _ _ h⟩
            | false => exact .inr ⟨rfl, ih _ _ h⟩
          | _ => exact h.elim
end

/-- Are these slots so. -/
noncomputable def agr (s : Sm) (E : Env) : Prop := List.rec (motive := fun _ => Prop) True (fun p _ ih => E p.1 = p.2.cells ∧ ih) s
theorem agr_eq : ∀ {s : Sm} {E : Env}, agr s E → ev s E = E
  | [], _, _ => rfl
  | (d, c) :: r, E, h => by
    have h : E d = c.cells ∧ agr r E := h
    rw [ev_cons, agr_eq h.2, ← h.1]
    funext k
    simp only [put]
    split
    · rename_i h; rw [h]
    · rfl

/-- Do frames name no loop beyond. -/
noncomputable def lpOk (fs : List Fr) (n : Nat) : Bool := List.rec (motive := fun _ => Bool) true (fun f _ ih => match f with | .lp k => Nat.ble (k + 1) n && ih | _ => ih) fs

section
variable {Φ : Ask} {Q : PX → Env → Prop} {Ns : List (Env → Prop)} {e : Env} {fs fs' fs2 : List Fr} {l l' l2 : Sm}

theorem after_lp (N : Env → Prop) : ∀ (fs : List Fr), lpOk fs Ns.length = true → ∀ (x : PX) (E : Env), after Φ Q (N :: Ns) fs x E → after Φ Q Ns fs x E
  | [], _, _, _, h => h
  | .ss ps :: r, hl, x, E, h => by
    cases x with
    | normal => obtain ⟨E', h1, h2⟩ := h; exact ⟨E', h1, after_lp N r hl _ _ h2⟩
    | exit i => exact after_lp N r hl _ _ h
    | ret v => exact after_lp N r hl _ _ h
  | .pc p :: r, hl, x, E, h => by
    cases x with
    | normal => exact pwp_mono p _ _ (fun x E hx => after_lp N r hl x E hx) _ h
    | exit i => exact after_lp N r hl _ _ h
    | ret v => exact after_lp N r hl _ _ h
  | .blk id :: r, hl, x, E, h => by
    cases x with
    | normal => exact after_lp N r hl _ _ h
    | exit i =>
      have h : (if i = id then after Φ Q (N :: Ns) r .normal E else after Φ Q (N :: Ns) r (.exit i) E) := h
      show (if i = id then after Φ Q Ns r .normal E else after Φ Q Ns r (.exit i) E)
      split <;> rename_i hi
      · rw [if_pos hi] at h; exact after_lp N r hl _ _ h
      · rw [if_neg hi] at h; exact after_lp N r hl _ _ h
    | ret v => exact after_lp N r hl _ _ h
  | .lp k :: r, hl, x, E, h => by
    have hl : (Nat.ble (k + 1) Ns.length && lpOk r Ns.length) = true := hl
    rw [Bool.and_eq_true] at hl
    cases x with
    | normal =>
      have hk := Nat.le_of_ble_eq_true hl.1
      have h : (match Nat.beq k Ns.length with | true => N | false => nxt Ns k) E := h
      cases hb : Nat.beq k Ns.length with
      | true => have := Nat.eq_of_beq_eq_true hb; omega
      | false => rw [hb] at h; exact h
    | exit i => exact after_lp N r hl.2 _ _ h
    | ret v => exact after_lp N r hl.2 _ _ h

theorem run_need {P : Prop} (h : run 100000 e fs l = .need P fs' l') (hp : P) (hk : RunM Φ Q Ns e fs' l') : RunM Φ Q Ns e fs l := ⟨run_ok 100000 fs l (by rw [h]; exact ⟨hp, hk⟩)⟩
theorem run_ite {t : Bool} (h : run 100000 e fs l = .ite t fs' l' fs2 l2) (h1 : t = true → RunM Φ Q Ns e fs' l') (h2 : t = false → RunM Φ Q Ns e fs2 l2) : RunM Φ Q Ns e fs l := ⟨run_ok 100000 fs l (by rw [h]; exact ⟨h1, h2⟩)⟩
theorem run_call1 {f : Nat} {sig : Sig} {ins : List (List D)} {d : Nat} {r : List D} (h : run 100000 e fs l = .call f sig ins [] d fs' l') (hc : Φ f sig ins [r]) (h1 : 1 = sig.rs.length) (hk : RunM Φ Q Ns e fs' ((d, .val r) :: l')) : RunM Φ Q Ns e fs l :=
  ⟨run_ok 100000 fs l (by
    have hr : [r].flatten = r := by simp
    rw [h]
    refine ⟨[r], [], hc, h1, rfl, ?_⟩
    show RunM Φ Q Ns e fs' ((d, .val [r].flatten) :: l')
    rw [hr]; exact hk)⟩
theorem run_calleq {f : Nat} {sig : Sig} {ins ins' : List (List D)} {d : Nat} {r : List D} (h : run 100000 e fs l = .call f sig ins [] d fs' l') (hc : Φ f sig ins' [r]) (hi : ins = ins') (h1 : 1 = sig.rs.length) (hk : RunM Φ Q Ns e fs' ((d, .val r) :: l')) : RunM Φ Q Ns e fs l := run_call1 h (hi ▸ hc) h1 hk
theorem run_callr {f : Nat} {sig : Sig} {ins ins' rs : List (List D)} {d : Nat} (h : run 100000 e fs l = .call f sig ins [] d fs' l') (hc : Φ f sig ins' rs) (hi : ins = ins') (h1 : rs.length = sig.rs.length) (hk : RunM Φ Q Ns e fs' ((d, .val rs.flatten) :: l')) : RunM Φ Q Ns e fs l :=
  ⟨run_ok 100000 fs l (by rw [h]; exact ⟨rs, [], by rw [hi]; simpa using hc, h1, rfl, hk⟩)⟩
theorem run_callb {f : Nat} {sig : Sig} {ins ins' rs xs : List (List D)} {bs : List Nat} {d : Nat} (h : run 100000 e fs l = .call f sig ins bs d fs' l') (hc : Φ f sig ins' (rs ++ xs)) (hi : ins = ins') (h1 : rs.length = sig.rs.length) (h2 : xs.length = bs.length) (hk : RunM Φ Q Ns e fs' ((d, .val rs.flatten) :: putsM l' bs xs)) : RunM Φ Q Ns e fs l :=
  ⟨run_ok 100000 fs l (by rw [h]; exact ⟨rs, xs, by rw [hi]; exact hc, h1, h2, hk⟩)⟩
theorem run_clo {f : Nat} {sig : Sig} {fn : List D} {ins : List (List D)} {d : Nat} (h : run 100000 e fs l = .callc f sig fn ins d fs' l') (hc : callcP Φ f sig fn ins fun rs => RunM Φ Q Ns e fs' ((d, .val rs.flatten) :: l')) : RunM Φ Q Ns e fs l := ⟨run_ok 100000 fs l (by rw [h]; exact hc)⟩
theorem run_clo1 {f : Nat} {sig : Sig} {gs : List (Bool × List D)} {cs ins ins' : List (List D)} {d : Nat} {r : List D} (h : run 100000 e fs l = .callc f sig [.fn f gs cs] ins d fs' l') (hc : Φ f sig (gs.map (·.2) ++ ins' ++ cs) [r]) (hi : ins = ins')
    (h1 : (Nat.beq (gs.length + ins'.length + cs.length) sig.ps.length && Nat.beq cs.length (nCaps sig.ps) && firstFits (sig.ps.take gs.length) gs && capFits (sig.ps.drop (gs.length + ins'.length)) cs && Nat.beq 1 sig.rs.length) = true)
    (hk : RunM Φ Q Ns e fs' ((d, .val r) :: l')) : RunM Φ Q Ns e fs l := by
  subst hi
  simp only [Bool.and_eq_true] at h1
  obtain ⟨⟨⟨⟨a1, a2⟩, a3⟩, a4⟩, a5⟩ := h1
  refine run_clo h ⟨gs, cs, [r], rfl, Nat.eq_of_beq_eq_true a1, Nat.eq_of_beq_eq_true a2, a3, a4, hc, Nat.eq_of_beq_eq_true a5, ?_⟩
  have hr : [r].flatten = r := by simp
  show RunM Φ Q Ns e fs' ((d, .val [r].flatten) :: l')
  rw [hr]; exact hk
theorem run_fb {p : PS} {c : List D} (h : run 100000 e fs l = .fb p fs' l') (hp : pstep p (ev l' e) = some (put (ev l' e) (dstOf p) c)) (hk : RunM Φ Q Ns e fs' ((dstOf p, .val c) :: l')) : RunM Φ Q Ns e fs l := ⟨run_ok 100000 fs l (by rw [h]; exact ⟨c, hp, hk⟩)⟩
theorem run_next {k : Nat} (h : run 100000 e fs l = .next k l') (hn : nxt Ns k (ev l' e)) : RunM Φ Q Ns e fs l := ⟨run_ok 100000 fs l (by rw [h]; exact hn)⟩
theorem run_ret {outs vs : List (List D)} (h : run 100000 e fs l = .ret vs l') (hq : vs = outs) : RunM Φ (RetIs outs) Ns e fs l := ⟨run_ok 100000 fs l (by rw [h]; exact hq)⟩
theorem run_loop {a : PC} {X : Type} (h : run 100000 e fs l = .loop a fs' l') (P : X → Prop) (st : X → Sm) (mu : X → Nat) (x0 : X) (hP : P x0) (h0 : agr (st x0) (ev l' e)) (hlp : lpOk fs' Ns.length = true)
    (body : ∀ x e, P x → RunM Φ Q ((fun E => ∃ x', mu x' < mu x ∧ P x' ∧ agr (st x') E) :: Ns) e (.pc a :: .lp Ns.length :: fs') (st x)) : RunM Φ Q Ns e fs l := by
  refine ⟨run_ok 100000 fs l ?_⟩
  rw [h]
  refine pwp_loop (fun n E => ∃ x, mu x = n ∧ P x ∧ agr (st x) E) (mu x0) ⟨x0, rfl, hP, h0⟩ ?_
  rintro n E ⟨x, rfl, hx, ha⟩
  have hb := (body x E hx).h
  rw [agr_eq ha] at hb
  refine pwp_mono a _ _ ?_ _ hb
  intro y E' hy
  cases y with
  | normal =>
    have hy : (match Nat.beq Ns.length Ns.length with | true => fun E => ∃ x', mu x' < mu x ∧ P x' ∧ agr (st x') E | false => nxt Ns Ns.length) E' := hy
    rw [Nat.beq_refl] at hy
    obtain ⟨x', h1, h2, h3⟩ := hy
    exact ⟨mu x', h1, x', rfl, h2, h3⟩
  | exit i => exact after_lp _ fs' hlp _ _ hy
  | ret v => exact after_lp _ fs' hlp _ _ hy

noncomputable def insM (k : Nat) (cs : List (List D)) : Sm := List.rec (motive := fun _ => Nat → Sm) (fun _ => []) (fun a _ ih k => (k, .val a) :: ih (Nat.succ k)) cs k
theorem ev_ins : ∀ (k : Nat) (cs : List (List D)) (s : Nat), ev (insM k cs) (fun _ => []) (k + s) = envL cs s
  | k, [], s => by rw [envL_nil]; rfl
  | k, a :: r, s => by
    have h : ev (insM k (a :: r)) (fun _ => []) = put (ev (insM (k + 1) r) (fun _ => [])) k a := ev_cons k (.val a) (insM (k + 1) r) _
    rw [h, envL_cons]
    simp only [put]
    cases s with
    | zero => simp
    | succ s => rw [if_neg (by omega), if_neg (by omega), show k + (s + 1) = (k + 1) + s by omega, ev_ins (k + 1) r s, Nat.add_sub_cancel]
theorem run_fun {p : PC} {ins outs : List (List D)} (h : RunM Φ (RetIs outs) [] (fun _ => []) [.pc p] (insM 0 ins)) : pwp Φ p (RetIs outs) (envL ins) := by
  have he : ev (insM 0 ins) (fun _ => []) = envL ins := by
    funext s
    have := ev_ins 0 ins s
    rwa [Nat.zero_add] at this
  have := h.h
  rw [he] at this
  refine pwp_mono p _ _ ?_ _ this
  intro x E hx
  cases x <;> exact hx
end

end V
end Go.Proofs.Ytgialjcichiaoaa

/-
A run whose results are only told to be good.
-/
namespace Go.Proofs.Ytgialjcichiaoaa
namespace V

/-- A function comes back with results that are such. -/
def RetEx (G : List (List D) → Prop) : PX → Env → Prop
  | .ret vs, _ => G vs
  | _, _ => False

theorem pwp_ex {Φ : Ask} {O : Type} : ∀ (p : PC) (Q : O → PX → Env → Prop) (e : Env), pwp Φ p (fun x e => ∃ o, Q o x e) e → ∃ o, pwp Φ p (Q o) e
  | .skip, _, _, h => h
  | .fail, _, _, h => h.elim
  | .ss _, _, _, h => by
    obtain ⟨e', h1, o, h2⟩ := h
    exact ⟨o, e', h1, h2⟩
  | .seq a b, Q, e, h => by
    have h1 : pwp Φ a (fun x e => ∃ o, PX.then (pwp Φ b (Q o)) (Q o) x e) e := by
      refine pwp_mono a _ _ ?_ e h
      intro x E hx
      cases x with
      | normal => exact pwp_ex b Q E hx
      | exit i => exact hx
      | ret v => exact hx
    exact pwp_ex a (fun o => PX.then (pwp Φ b (Q o)) (Q o)) e h1
  | .cond c a b, Q, e, h => by
    rcases h with ⟨h1, h2⟩ | ⟨h1, h2⟩
    · obtain ⟨o, h3⟩ := pwp_ex a Q e h2
      exact ⟨o, .inl ⟨h1, h3⟩⟩
    · obtain ⟨o, h3⟩ := pwp_ex b Q e h2
      exact ⟨o, .inr ⟨h1, h3⟩⟩
  | .block id a, Q, e, h => by
    have h1 : pwp Φ a (fun x e => ∃ o, PX.inBlock id (Q o) x e) e := by
      refine pwp_mono a _ _ ?_ e h
      intro x E hx
      cases x with
      | normal => exact hx
      | exit i =>
        simp only [PX.inBlock] at hx ⊢
        by_cases hi : i = id
        · simp only [if_pos hi] at hx ⊢; exact hx
        · simp only [if_neg hi] at hx ⊢; exact hx
      | ret v => exact hx
    exact pwp_ex a (fun o => PX.inBlock id (Q o)) e h1
  | .loop a, Q, e, h => by
    obtain ⟨n, hn⟩ := h
    have key : ∀ (n : Nat) (e : Env), Nat.rec (motive := fun _ => Env → Prop) (fun _ => False) (fun _ ih e => pwp Φ a (PX.then ih (fun x e => ∃ o, Q o x e)) e) n e →
        ∃ o, Nat.rec (motive := fun _ => Env → Prop) (fun _ => False) (fun _ ih e => pwp Φ a (PX.then ih (Q o)) e) n e := by
      intro n
      induction n with
      | zero => intro e h; exact h.elim
      | succ n ih =>
        intro e h
        refine pwp_ex a (fun o => PX.then (Nat.rec (motive := fun _ => Env → Prop) (fun _ => False) (fun _ ih e => pwp Φ a (PX.then ih (Q o)) e) n) (Q o)) e (pwp_mono a _ _ ?_ e h)
        intro x E hx
        cases x with
        | normal => exact ih E hx
        | exit i => exact hx
        | ret v => exact hx
    obtain ⟨o, ho⟩ := key n e hn
    exact ⟨o, n, ho⟩
  | .exit _, _, _, h => h
  | .ret _, _, _, h => h

section
variable {Φ : Ask}
theorem run_retx {Ns : List (Env → Prop)} {e : Env} {fs : List Fr} {l l' : Sm} {G : List (List D) → Prop} {vs : List (List D)} (h : run 100000 e fs l = .ret vs l') (hq : G vs) : RunM Φ (RetEx G) Ns e fs l := ⟨run_ok 100000 fs l (by rw [h]; exact hq)⟩
/-- A call whose results are only told to be good. -/
theorem run_callx {Q : PX → Env → Prop} {Ns : List (Env → Prop)} {e : Env} {fs fs' : List Fr} {l l' : Sm} {f : Nat} {sig : Sig} {ins ins' : List (List D)} {bs : List Nat} {d : Nat} {G : List (List D) → Prop}
    (h : run 100000 e fs l = .call f sig ins bs d fs' l') (hc : ∃ outs, G outs ∧ Φ f sig ins' outs) (hi : ins = ins')
    (hk : ∀ outs, G outs → ∃ rs xs, outs = rs ++ xs ∧ rs.length = sig.rs.length ∧ xs.length = bs.length ∧ RunM Φ Q Ns e fs' ((d, .val rs.flatten) :: putsM l' bs xs)) : RunM Φ Q Ns e fs l := by
  obtain ⟨outs, h1, h2⟩ := hc
  obtain ⟨rs, xs, rfl, h3, h4, h5⟩ := hk outs h1
  exact run_callb h h2 hi h3 h4 h5
theorem run_funx {p : PC} {ins : List (List D)} {G : List (List D) → Prop} (h : RunM Φ (RetEx G) [] (fun _ => []) [.pc p] (insM 0 ins)) : ∃ outs, G outs ∧ pwp Φ p (RetIs outs) (envL ins) := by
  have he : ev (insM 0 ins) (fun _ => []) = envL ins := by
    funext s
    have := ev_ins 0 ins s
    rwa [Nat.zero_add] at this
  have := h.h
  rw [he] at this
  obtain ⟨o, ho⟩ := pwp_ex p (fun (o : { o : List (List D) // G o }) => RetIs o.1) (envL ins) (pwp_mono p _ _ (fun x E hx => by
    cases x with
    | ret vs => exact ⟨⟨vs, hx⟩, rfl⟩
    | normal => exact hx.elim
    | exit i => exact hx.elim) _ this)
  exact ⟨o.1, o.2, ho⟩
end

end V
end Go.Proofs.Ytgialjcichiaoaa

/-
From a function's promise to a law's row: slices of bytes that come in.
-/
namespace Go.Proofs.Ytgialjcichiaoaa
namespace V
open Go.ChangeShapes Go.WideShapes Go.ChangeAt Go.RowKit

def noOwn : Own := fun _ => none
def topCx (w : World) : Cx := ⟨fun g _ => g < w.heap.size, fun g _ => g < w.heap.size, fun g => w.heap.size ≤ g⟩
def topWld : Wld := ⟨0, fun _ => True, fun _ _ => Nat.zero_le _, fun _ _ _ _ _ _ => trivial⟩
theorem wok_top (w : World) : WOk w noOwn (topCx w) noOwn w where
  kept := Kept.refl _ _
  dom := fun g i h => by cases h
  n := fun g => ⟨fun h => .inl h, fun h => h.elim id fun h => absurd rfl h⟩
  s1 := fun g o h => h
  s2 := fun g o h => ⟨h, fun ⟨i, b, h1, _⟩ => by cases h1⟩
  cl := fun g o h1 ⟨i, b, h2, _⟩ => by cases h2
  inj := fun g g' i j h => by cases h

/-- What is left of an old world. -/
def Same (w w' : World) : Prop := w'.os = w.os ∧ w'.output = w.output ∧ ∀ g, g < w.heap.size → w'.heap[g]? = w.heap[g]?
theorem same_of {cx : Cx} {own' : Own} {w w' : World} (h : WOk w noOwn cx own' w') : Same w w' := ⟨h.kept.os, h.kept.output, fun g hg => h.kept.block g hg rfl⟩
theorem same_kept {w w' : World} (h : Same w w') (may : MemPlace → Prop) : w.keptBut w' may := by
  refine ⟨h.1, h.2.1, fun i hi => ?_⟩
  rw [h.2.2 i hi]
  cases w.heap[i]? with
  | none => rfl
  | some o => cases o <;> simp
theorem same_cell {w w' : World} (h : Same w w') {b o : Nat} (hb : b < w.heap.size) : w'.cell? ⟨b, o, none⟩ = w.cell? ⟨b, o, none⟩ := by
  unfold World.cell?
  simp only [h.2.2 b hb]
theorem same_frozen {w w' : World} (h : Same w w') {a : Addr} (hb : a.block < w.heap.size) : w'.frozen? a = w.frozen? a := by
  unfold World.frozen?
  rw [h.2.2 a.block hb]

section
variable {H : Type} {enc : TypeId × Value → H} {P : Program}

/-- A slice of bytes that came in: what it holds; and that it reads as it did. -/
structure ByteArg (P : Program) (enc : TypeId × Value → H) (W : World) (t : TypeId) (v : Value) (d : DataW H) (p : List MemPlace) (bs : List Int) : Prop where
  one : Cell1 v
  byt : ∀ x ∈ bs, 0 ≤ x ∧ x ≤ 255
  rep : Rep W (RS (topCx W) noOwn) (.sl (bs.map fun x => [.int .u8 x])) v
  back : ∀ W', Same W W' → ∀ sp : Nat → Bool, (∀ q ∈ p, sp q.block = true) → DataW.Trod enc P W' 0 sp true t v d p

theorem byte_arg {W : World} {t e : TypeId} {v : Value} {d : DataW H} {p : List MemPlace} (ht : P.underlying t = some (.slice e)) (he : P.underlying e = some (.int .u8)) (hc : P.cellsOf e = 1)
    (hs : ∃ a len cap, v = .slice a len cap) (hlt : ∀ q ∈ p, q.block < W.heap.size) (h : DataW.Trod enc P W 0 (fun _ => true) true t v d p) : ∃ bs, ByteArg P enc W t v d p bs := by
  obtain ⟨a0, l0, c0, rfl⟩ := hs
  obtain ⟨fuel, hf⟩ := h
  have h1 : Cell1 (Value.slice a0 l0 c0) := ⟨fun c h => (by cases h), fun c h => (by cases h)⟩
  rcases open_ints ht he hc hf with ⟨hcs, hx⟩ | ⟨a, len, cap, zs, hcs, _, hl, hm, hz, hx, hcell, hw⟩
  · simp [Value.cells] at hcs
    obtain ⟨rfl, rfl, rfl⟩ := hcs
    simp only [Prod.mk.injEq] at hx
    obtain ⟨rfl, rfl⟩ := hx
    exact ⟨[], h1, fun x hx => (by cases hx), .nil none 0, fun W' _ sp _ => shut_slice_nil ht⟩
  · simp [Value.cells] at hcs
    obtain ⟨rfl, rfl, rfl⟩ := hcs
    simp only [Prod.mk.injEq] at hx
    obtain ⟨rfl, rfl⟩ := hx
    simp only [if_true] at hz
    have hb : ∀ x ∈ zs, 0 ≤ x ∧ x ≤ 255 := fun x hx => by
      have := hw x hx
      simp only [Lit.wf, Bool.and_eq_true, decide_eq_true_eq] at this
      have e1 : IntKind.u8.min = 0 := rfl
      have e2 : IntKind.u8.max = 255 := rfl
      omega
    refine ⟨zs.take l0, h1, fun x hx => hb x (List.mem_of_mem_take hx), ?_, fun W' hW sp hsp => ?_⟩
    · by_cases hl0 : l0 = 0
      · subst hl0
        exact .nil (some a) c0
      · obtain ⟨b, o, spot⟩ := a
        have hspot : spot = none := by simpa [Addr.add] using World.cell?_spot (hcell 0 (by omega))
        subst hspot
        have hlen : ((zs.take l0).map fun x => ([.int .u8 x] : List D)).length = l0 := by simp; omega
        have key : ∀ (i : Nat) (x : List D) (j : Nat) (d : D), ((zs.take l0).map fun x => ([.int .u8 x] : List D))[i]? = some x → x[j]? = some d → i < l0 ∧ j = 0 ∧ d = .int .u8 (zs.getD i 0) := by
          intro i x j d hx hd
          have hi : i < l0 := by
            have := (List.getElem?_eq_some_iff.1 hx).1
            omega
          rw [List.getElem?_map, List.getElem?_take_of_lt hi, List.getElem?_eq_getElem (by omega)] at hx
          simp only [Option.map_some, Option.some.injEq] at hx
          subst hx
          cases j with
          | zero =>
            simp only [List.getElem?_cons_zero, Option.some.injEq] at hd
            refine ⟨hi, rfl, ?_⟩
            rw [← hd]
            simp [List.getD, show i < zs.length by omega]
          | succ j => simp at hd
        have hrep := Rep.sl (w := W) (S := RS (topCx W) noOwn) ((zs.take l0).map fun x => ([.int .u8 x] : List D)) b o 1 c0 (fun i _ => .int .u8 (zs.getD i 0)) (by rw [hlen]; exact hl)
          (fun x hx => by obtain ⟨z, _, rfl⟩ := List.mem_map.1 hx; rfl)
          (fun i x j d hx hd => by
            obtain ⟨k1, rfl, rfl⟩ := key i x j d hx hd
            have := hcell i (by omega)
            rw [add_plain] at this
            rw [show o + i * 1 + 0 = o + i by omega]
            exact this)
          (fun i x j d hx hd => by
            obtain ⟨k1, rfl, rfl⟩ := key i x j d hx hd
            exact ⟨rfl, .inl (hlt (.cell b (o + i)) (MemPlace.mem_row.2 ⟨i, by omega, rfl⟩))⟩)
          (fun i x j d hx hd => by
            obtain ⟨k1, rfl, rfl⟩ := key i x j d hx hd
            exact .scal (.int .u8 _))
        rw [hlen] at hrep
        exact hrep
    · have hcell' : ∀ i, i < zs.length → W'.cell? (a.add i) = some (.int .u8 (zs.getD i 0)) := fun i hi => by
        have h2 := hcell i hi
        obtain ⟨b, o, spot⟩ := a
        have hspot : spot = none := by simpa [Addr.add] using World.cell?_spot (hcell 0 (by omega))
        subst hspot
        rw [add_plain] at h2 ⊢
        have hbb : b < W.heap.size := hlt (.cell b (o + i)) (MemPlace.mem_row.2 ⟨i, hi, rfl⟩)
        rw [same_cell hW hbb]
        exact h2
      by_cases hz0 : zs.length = 0
      · have hc0 : c0 = 0 := by omega
        have hl0 : l0 = 0 := by omega
        subst hc0; subst hl0
        have t0 := shut_ints (enc := enc) (w := W') (base := 0) (spare := sp) (held := true) (a := a) (len := 0) (cap := 0) (zs := zs) 0 ht he hc (Nat.zero_le _) (Nat.le_refl _) hm (by simp [hz0]) hcell' hw
        exact ⟨2, by simpa [Value.cells] using t0⟩
      · have hspb : sp a.block = true := hsp (.cell a.block a.off) (MemPlace.mem_row.2 ⟨0, by omega, by simp⟩)
        have t0 := shut_ints (enc := enc) (w := W') (base := 0) (spare := sp) (held := true) (a := a) (len := l0) (cap := c0) (zs := zs) 0 ht he hc (Nat.zero_le _) hl hm (by simp [hspb, hz]) hcell' hw
        exact ⟨2, by simpa [Value.cells] using t0⟩

/-- What a call that leaves the old world as it was owes its row. -/
theorem post_kept {f : Func} {s : ChangeSpec} {apart fresh handsOn again : Bool} {W W' : World} {args : Array Value} {v : Value} {ds gs : List (DataW H)} {before pa pv : List MemPlace}
    (hW : DataW.Whole enc P f.params.toList s.vars apart W args.toList ds gs before) (hS : Same W W')
    (hres : ∀ (b : Nat) (sp : Nat → Bool) (hd : Bool), DataW.TrodAll enc P W' b sp hd f.resultTypes.toList (v.resultList f.resultTypes.size) (s.fn H (ds ++ gs)).results [])
    (hargs : ∀ sp : Nat → Bool, (∀ p ∈ before, sp p.block = true) → DataW.TrodAll enc P W' 0 sp true f.params.toList args.toList (s.fn H (ds ++ gs)).args pa)
    (hvars : ∀ sp : Nat → Bool, (∀ p ∈ before, sp p.block = true) → DataW.TrodVars enc P W' sp s.vars (s.fn H (ds ++ gs)).vars pv)
    (hps : before = pa ++ pv)
    (hok : ∀ (j : Nat) (t : TypeId) (r : Value), f.resultTypes[j]? = some t → (v.resultList f.resultTypes.size)[j]? = some r → Value.okWide P W' .any 0 t r) :
    s.post enc P f apart fresh handsOn again W args v W' := by
  have hold : ∀ p ∈ before, (fun b => decide (b < W.heap.size)) p.block = true := fun p hp => by simpa using hW.lt p hp
  refine ⟨ds, gs, before, [], pa, pv, hW, hres _ _ _, hargs _ hold, hvars _ hold, same_kept hS _, fun _ => ?_⟩
  have hlt := hW.lt
  obtain ⟨_, _, _, _, _, hz, hn⟩ := hW
  refine ⟨hok, _, _, ([] ++ pa) ++ pv, ⟨[] ++ pa, pv, trodAll_append (hargs _ (fun _ _ => rfl)) (hres _ _ _), hvars _ (fun _ _ => rfl), rfl, ?_, ?_⟩, ?_⟩
  · intro b off hp
    have hp' : MemPlace.cell b off ∈ before := by rw [hps]; simpa using hp
    rw [same_frozen hS (hlt _ hp')]
    exact hz b off hp'
  · intro ha
    have := hn ha
    rw [hps] at this
    simpa using this
  · intro p hp _
    rw [hps]
    simpa using hp
end

/-- A law over one slice of bytes. -/
theorem law1 {H : Type} {enc : TypeId × Value → H} {P : Program} {f : Nat} {fn : Func} {s : ChangeSpec} {apart fresh handsOn again : Bool} {W : World} {args : Array Value} {base : Nat} {ds gs : List (DataW H)} {before : List MemPlace} {t u e : TypeId}
    (hpa : fn.params = #[t]) (hrt : fn.resultTypes = #[u]) (hu : P.underlying u = some .bool) (ht : P.underlying t = some (.slice e)) (he : P.underlying e = some (.int .u8)) (hc : P.cellsOf e = 1) (hv : s.vars = [])
    (hfn : ∀ d : DataW H, (s.fn H [d]).results = [.lit (.bool true)] ∧ (s.fn H [d]).args = [d] ∧ (s.fn H [d]).vars = [])
    (hf : ∀ bs : List Int, (∀ x ∈ bs, 0 ≤ x ∧ x ≤ 255) → FunOk P topWld f ⟨[.v false [.r]], [.v false [.s]]⟩ [[.sl (bs.map fun x => [.int .u8 x])]] [[.bool true]])
    (hval : ∀ (j : Nat) t v, fn.params[j]? = some t → args[j]? = some v → Value.okWide P W .any base t v)
    (hW : DataW.Whole enc P fn.params.toList s.vars apart W args.toList ds gs before) :
    Calls P f args W fun e W' => ∃ v, e = .returned v ∧ s.post enc P fn apart fresh handsOn again W args v W' := by
  have hW' := hW
  have hlt := hW.lt
  obtain ⟨p, q, hA, hV, rfl, hfz, hnd⟩ := hW
  rw [hv] at hV
  rw [hpa] at hA hval
  obtain ⟨v0, d0, rfl, rfl, h0⟩ := trodAll_one hA
  obtain ⟨rfl, rfl⟩ := trodVars_none hV
  obtain ⟨bs, hb⟩ := byte_arg ht he hc (okWide_slice ht (hval 0 t v0 rfl rfl)) (fun q hq => hlt q (by simpa using hq)) h0
  obtain ⟨_, hrun⟩ := hf bs hb.byt
  refine (hrun W noOwn (topCx W) [v0] trivial (wok_top W) (fun g i h => by cases h) rfl rfl ?_).mono ?_
  · intro x hx
    simp only [start, starts, startSh, List.mem_singleton] at hx
    subst hx
    refine ⟨[v0], rfl, fun _ => rfl, rfl, rfl, fun i c d v hc hd hv => ?_⟩
    cases i with
    | zero =>
      simp only [List.getElem?_cons_zero, Option.some.injEq] at hc hv
      subst hc; subst hv
      have hd : some (D.sl (bs.map fun x => [D.int .u8 x])) = some d := hd
      simp only [Option.some.injEq] at hd
      subst hd
      exact ⟨hb.one, hb.rep⟩
    | succ i => simp at hc
  · rintro en W' ⟨v, own', rfl, hwok, hres⟩
    have hS := same_of hwok
    obtain ⟨hlen, rv, hrl, rfl, hr, _⟩ := hres
    match rv, hrl with
    | [r], _ =>
      obtain ⟨vs, h1, h2, h3⟩ := hr 0 (.v false [.s]) rfl
      have hvl := h2 rfl
      match vs, hvl with
      | [x], _ =>
        have hx : r = x := h1
        subst hx
        obtain ⟨_, hsc⟩ := h3.2.2 0 .s (.bool true) r rfl rfl rfl
        have hrb : r = .bool true := by cases hsc; rfl
        subst hrb
        obtain ⟨e1, e2, e3⟩ := hfn d0
        refine ⟨_, rfl, post_kept (pa := p) (pv := []) (by rw [List.append_nil] at hW'; exact hW') hS (fun b sp hd => ?_) (fun sp hsp => ?_) (fun sp hsp => ?_) (by simp) ?_⟩
        · rw [List.append_nil, e1, hrt]
          exact trodAll_mk1 (shut_bool hu true)
        · rw [List.append_nil, e2, hpa]
          exact trodAll_mk1 (hb.back W' hS sp (fun q hq => hsp q (by simpa using hq)))
        · rw [List.append_nil, e3, hv]
          exact rfl
        · exact ok_one hrt rfl (okWide_bool_mk hu true)

/-- A law over two slices of bytes. -/
theorem law2 {H : Type} {enc : TypeId × Value → H} {P : Program} {f : Nat} {fn : Func} {s : ChangeSpec} {apart fresh handsOn again : Bool} {W : World} {args : Array Value} {base : Nat} {ds gs : List (DataW H)} {before : List MemPlace} {t u e : TypeId}
    (hpa : fn.params = #[t, t]) (hrt : fn.resultTypes = #[u]) (hu : P.underlying u = some .bool) (ht : P.underlying t = some (.slice e)) (he : P.underlying e = some (.int .u8)) (hc : P.cellsOf e = 1) (hv : s.vars = [])
    (hfn : ∀ d d' : DataW H, (s.fn H [d, d']).results = [.lit (.bool true)] ∧ (s.fn H [d, d']).args = [d, d'] ∧ (s.fn H [d, d']).vars = [])
    (hf : ∀ bs cs : List Int, (∀ x ∈ bs, 0 ≤ x ∧ x ≤ 255) → (∀ x ∈ cs, 0 ≤ x ∧ x ≤ 255) → FunOk P topWld f ⟨[.v false [.r], .v false [.r]], [.v false [.s]]⟩ [[.sl (bs.map fun x => [.int .u8 x])], [.sl (cs.map fun x => [.int .u8 x])]] [[.bool true]])
    (hval : ∀ (j : Nat) t v, fn.params[j]? = some t → args[j]? = some v → Value.okWide P W .any base t v)
    (hW : DataW.Whole enc P fn.params.toList s.vars apart W args.toList ds gs before) :
    Calls P f args W fun e W' => ∃ v, e = .returned v ∧ s.post enc P fn apart fresh handsOn again W args v W' := by
  have hW' := hW
  have hlt := hW.lt
  obtain ⟨p, q, hA, hV, rfl, hfz, hnd⟩ := hW
  rw [hv] at hV
  rw [hpa] at hA hval
  obtain ⟨v0, v1, d0, d1, p0, p1, rfl, rfl, rfl, h0, h1⟩ := trodAll_two hA
  obtain ⟨rfl, rfl⟩ := trodVars_none hV
  obtain ⟨bs, hb⟩ := byte_arg ht he hc (okWide_slice ht (hval 0 t v0 rfl rfl)) (fun q hq => hlt q (by simp [hq])) h0
  obtain ⟨cs, hcs⟩ := byte_arg ht he hc (okWide_slice ht (hval 1 t v1 rfl rfl)) (fun q hq => hlt q (by simp [hq])) h1
  obtain ⟨_, hrun⟩ := hf bs cs hb.byt hcs.byt
  have hslot : ∀ (k : Nat) (v0 : Value) (bs : List Int) (env : Env) (tv : Nat → Value), tv k = v0 → env k = [.sl (bs.map fun x => [D.int .u8 x])] → Cell1 v0 → Rep W (RS (topCx W) noOwn) (.sl (bs.map fun x => [.int .u8 x])) v0 → SlotOk W (topCx W) noOwn env tv k (.v false [.r]) := by
    intro k v0 bs env tv htv henv ho hr
    refine ⟨[v0], htv, fun _ => rfl, by rw [henv]; rfl, by rw [henv]; rfl, fun i c d v hc hd hv => ?_⟩
    cases i with
    | zero =>
      simp only [List.getElem?_cons_zero, Option.some.injEq] at hc hv
      subst hc; subst hv
      rw [henv] at hd
      simp only [List.getElem?_cons_zero, Option.some.injEq] at hd
      subst hd
      exact ⟨ho, hr⟩
    | succ i => simp at hc
  refine (hrun W noOwn (topCx W) [v0, v1] trivial (wok_top W) (fun g i h => by cases h) rfl rfl ?_).mono ?_
  · intro x hx
    simp only [start, starts, startSh, List.mem_cons, List.not_mem_nil, or_false] at hx
    rcases hx with rfl | rfl
    · exact hslot 0 v0 bs _ _ rfl rfl hb.one hb.rep
    · exact hslot 1 v1 cs _ _ rfl rfl hcs.one hcs.rep
  · rintro en W' ⟨v, own', rfl, hwok, hres⟩
    have hS := same_of hwok
    obtain ⟨hlen, rv, hrl, rfl, hr, _⟩ := hres
    match rv, hrl with
    | [r], _ =>
      obtain ⟨vs, h1, h2, h3⟩ := hr 0 (.v false [.s]) rfl
      have hvl := h2 rfl
      match vs, hvl with
      | [x], _ =>
        have hx : r = x := h1
        subst hx
        obtain ⟨_, hsc⟩ := h3.2.2 0 .s (.bool true) r rfl rfl rfl
        have hrb : r = .bool true := by cases hsc; rfl
        subst hrb
        obtain ⟨e1, e2, e3⟩ := hfn d0 d1
        refine ⟨_, rfl, post_kept (pa := p0 ++ p1) (pv := []) (by rw [List.append_nil] at hW'; exact hW') hS (fun b sp hd => ?_) (fun sp hsp => ?_) (fun sp hsp => ?_) (by simp) ?_⟩
        · rw [List.append_nil, e1, hrt]
          exact trodAll_mk1 (shut_bool hu true)
        · rw [List.append_nil, e2, hpa]
          exact trodAll_mk2 (hb.back W' hS sp (fun q hq => hsp q (by simp [hq]))) (hcs.back W' hS sp (fun q hq => hsp q (by simp [hq])))
        · rw [List.append_nil, e3, hv]
          exact rfl
        · exact ok_one hrt rfl (okWide_bool_mk hu true)

end V
end Go.Proofs.Ytgialjcichiaoaa

/-
A function that asks whether a list is nil: what it does must not hang on the answer, but that a nil list is empty.
-/
namespace Go.Proofs.Ytgialjcichiaoaa
namespace V

section
variable {P : Program} {C : Cfg} {W : Wld} {T0 : Nat → Value} {w0 : World} {own0 : Own} {cx : Cx} {Φ : Ask} {F : Fin} {ops : Array Oper} {Q : Exit → Act → World → Prop}

/-- A function keeps its promise if its code, run from its start, ends with the promised results. -/
theorem fun_wp (hC : CfgOk P C) {f : Nat} {fn : Func} (hf : P.funcs[f]? = some fn) (hname : (fn.name == "runtime.NumGoroutine") = false) {sig : Sig} (hfine : sig.fine = true)
    (hn : fn.ntmps = C.n) (hnp : Nat.ble sig.ps.length C.n = true) (hpin : (boxPs sig.ps 0).all (fun p => C.pin.any (Nat.beq p.1)) = true) {c : Code} (hbody : fn.body = some c) {ins outs : List (List D)} {ex : List (Nat × St)}
    (hwp : ∀ {w : World} {own : Own} {cx : Cx} {vals : List Value} {a : Act}, W.P w → (∀ g i, own g = some i → W.G ≤ g) → Now C (tvL vals) w own cx (start sig) own (envL ins) a w →
      c.wp P (Post C ⟨fn.results.toList, sig⟩ (tvL vals) w own cx none ex (RetIs outs)) a w) : FunOk P W f sig ins outs := by
  refine ⟨⟨fn, hf, hname, by rw [hbody]; rfl⟩, fun w own cx vals hP hw hlow hvl hil hinv => ?_⟩
  let a0 : Act := { tmps := vals.toArray ++ Array.replicate (fn.ntmps - vals.toArray.size) undef, defers := [] }
  have htv : tvA a0 = tvL vals := by
    funext k
    show (vals.toArray ++ Array.replicate (fn.ntmps - vals.toArray.size) undef).getD k undef = vals.getD k undef
    rw [Array.getD_eq_getD_getElem?, List.getD_eq_getElem?_getD]
    by_cases hk : k < vals.length
    · rw [Array.getElem?_append_left (by simpa using hk)]
      simp
    · rw [Array.getElem?_append_right (by simpa using hk), List.getElem?_eq_none (by omega), Array.getElem?_replicate]
      split <;> rfl
  have hsz : a0.tmps.size = C.n := by
    show (vals.toArray ++ Array.replicate (fn.ntmps - vals.toArray.size) undef).size = C.n
    have : sig.ps.length ≤ C.n := Nat.le_of_ble_eq_true hnp
    simp
    omega
  have hN : Now C (tvL vals) w own cx (start sig) own (envL ins) a0 w := ⟨hw, by rw [htv]; exact hinv, hsz, rfl, fun k _ => by rw [htv]⟩
  refine calls_of_wp hf hbody ?_
  refine wp_mono (hwp hP (fun g i hi => (hlow g i hi).1) hN) (fun e a w h => ?_)
  cases e with
  | normal =>
    obtain ⟨T, _, _, q1, _⟩ := h
    cases q1
  | ret =>
    obtain ⟨S, l, R, own', env, q1, q2, q3⟩ := h
    obtain ⟨v, k1, own2, k2, k3⟩ := ret_ok hC q1 hfine q2 q2.wok hpin
    have h3' : l.map env = outs := q3
    rw [h3'] at k3
    exact ⟨q2.defers, v, k1, v, own2, rfl, k2, k3⟩
  | exit id =>
    obtain ⟨T, own', env, _, _, q3⟩ := h
    exact q3.elim
  | _ => exact h.elim

/-- A list is asked whether it is nil. -/
theorem nil_step {S : St} {i d s : Nat} {t t2 : TypeId} {e : TypeId} {o : Oper} {c : CS} {own : Own} {env : Env} {a : Act} {w : World} {xs : List (List D)} (ho : ops[i]? = some o) (hop : o.op = .binOp .eql t (.tmp s) (.const (.slice none 0 0)) t2) (hod : o.dst = some d) (hgd : o.guard = none)
    (ht : P.underlying t = some (.slice e)) (hsh : look S s = .v false [c]) (hc : c = .b ∨ c = .r) (hd : d < C.n) (hpin : C.pin.any (Nat.beq d) = false) (hN : Now C T0 w0 own0 cx S own env a w) (hs : env s = [.sl xs]) {K : Act → World → Prop}
    (hK : ∀ b own' w' a', (b = true → xs = []) → Now C T0 w0 own0 cx (({ dst := some (d, .v false [.s]) } : Up).run S) own' (put env d [.bool b]) a' w' → K a' w') : wpOp P ops Q i K a w := by
  unfold wpOp
  rw [ho]
  simp only
  rw [if_pos (wanted_none hgd)]
  left
  have hl := hN.inv.look s
  rw [hsh] at hl
  obtain ⟨vs, h1, h2, h3⟩ := hl
  have hvl := h2 rfl
  match vs, hvl with
  | [v], _ =>
    have hv : a.eval (.tmp s) = v := h1
    have hcell := h3.2.2 0 c (.sl xs) v rfl (by rw [hs]; rfl) rfl
    have hv2 : ∃ A l k, v = .slice A l k ∧ (A = none → xs = []) := by
      rcases hc with rfl | rfl
      · obtain ⟨_, hr⟩ := hcell
        have hr : Rep w (BS cx own) (.sl xs) v := hr
        cases hr with
        | scal h => cases h
        | nil A cap => exact ⟨A, 0, cap, rfl, fun _ => rfl⟩
        | sl xs g off sz cap vs _ _ _ _ _ => exact ⟨_, _, _, rfl, fun h => by cases h⟩
      · obtain ⟨_, hr⟩ := hcell
        have hr : Rep w (RS cx own) (.sl xs) v := hr
        cases hr with
        | scal h => cases h
        | nil A cap => exact ⟨A, 0, cap, rfl, fun _ => rfl⟩
        | sl xs g off sz cap vs _ _ _ _ _ => exact ⟨_, _, _, rfl, fun h => by cases h⟩
    obtain ⟨A, l, k, rfl, hnil⟩ := hv2
    have hrun : RunsQ P cx own w a env o { dst := some (d, .v false [.s]) } (put env d [.bool A.isNone]) := by
      refine runs_scalQ hN.wok hod (by rw [hN.size]; exact hd) (fun w2 => ?_) (.bool _)
      unfold execOp
      have hg : (eqGuard .eql t (.tmp s) (.const (.slice none 0 0)) (.slice A l k) (.slice none 0 0)).run P w2 = .ok () w2 := by simp [eqGuard]
      have hv0 : a.eval (.const (.slice none 0 0)) = .slice none 0 0 := rfl
      simp only [hop, hv, hv0, Sem.run_bind, hg, Result.andThen_ok, Lib.run_eql_slice_nil w2 t e A l k 0 0 ht, Sem.run_pure]
    refine hrun.opOk K Q (fun own' w' a' hD => hK A.isNone own' w' a' (fun hb => hnil (by cases A with | none => rfl | some x => cases hb)) (hN.done hD ?_))
    intro d' sh' h
    simp only [Option.some.injEq, Prod.mk.injEq] at h
    rw [← h.1]; exact hpin

/-- What is found out of a function of that make. -/
structure NilC (C : Cfg) (F : Fin) (S : St) (r0 cd rest : Code) (ops : Array Oper) (pc0 : PC) (p0 : PS) (s d : Nat) (pcc pcr : PC) : Prop where
  T : ∃ (T T1 Tc : St) (o : Oper) (t t2 e : TypeId) (c : CS) (exc exr : List (Nat × St)), cCode C F r0 S = some ⟨pc0, some T, []⟩ ∧ cSeq C ops [0] T = some (T1, [p0]) ∧ ops.size = 2 ∧ ops[1]? = some o ∧
    o.op = .binOp .eql t (.tmp s) (.const (.slice none 0 0)) t2 ∧ o.dst = some d ∧ o.guard = none ∧ (∃ ti, C.ty t = some ti ∧ ti.desc = .slice e) ∧ look T1 s = .v false [c] ∧ (c = .b ∨ c = .r) ∧ d < C.n ∧ C.pin.any (Nat.beq d) = false ∧
    cCode C F cd (({ dst := some (d, .v false [.s]) } : Up).run T1) = some ⟨pcc, some Tc, exc⟩ ∧ cCode C F rest Tc = some ⟨pcr, none, exr⟩

theorem nilC_ok (hC : CfgOk P C) (hE : EqOk P C) (hm : P.follows .mixedOrders = true) {f : Nat} {fn : Func} (hf : P.funcs[f]? = some fn) (hname : (fn.name == "runtime.NumGoroutine") = false) {sig : Sig} (hfine : sig.fine = true)
    (hn : fn.ntmps = C.n) (hnp : Nat.ble sig.ps.length C.n = true) (hpin : (boxPs sig.ps 0).all (fun p => C.pin.any (Nat.beq p.1)) = true) {r0 cd rest : Code} {id : Nat} {pc0 pcc pcr : PC} {p0 : PS} {s d : Nat}
    (hbody : fn.body = some (.seq r0 (.seq (.seq (.region id ops false) cd) rest))) (hc : NilC C ⟨fn.results.toList, sig⟩ (start sig) r0 cd rest ops pc0 p0 s d pcc pcr) {ins outs : List (List D)}
    (hp : pwp (FunOk P W) pc0 (fun x e => x = .normal ∧ ∃ e1 xs, PRel (FunOk P W) p0 e e1 ∧ e1 s = [.sl xs] ∧ ∀ b, (b = true → xs = []) → pwp (FunOk P W) pcc (PX.then (pwp (FunOk P W) pcr (RetIs outs)) (RetIs outs)) (put e1 d [.bool b])) (envL ins)) :
    FunOk P W f sig ins outs := by
  obtain ⟨T, T1, Tc, o, t, t2, e, c, exc, exr, h0, h1, hsz2, ho, hop, hod, hgd, ⟨ti, hti, hde⟩, hsh, hcc, hd, hpd, h2, h3⟩ := hc.T
  refine fun_wp (ex := exc ++ exr) hC hf hname hfine hn hnp hpin hbody (fun {w own cx vals a} hP hlow hN => ?_)
  have X : Ctx P C W w own (FunOk P W) := ⟨hC, hE, fun _ _ _ _ h => h, hP, hlow, hm⟩
  refine wp_seq (wp_mono (code_ok X h0 hN hp) (fun en a w h => ?_))
  cases en with
  | normal =>
    obtain ⟨T', own1, env1, q1, q2, _, e1, xs, q3, q4, q5⟩ := h
    simp only [Option.some.injEq] at q1
    subst q1
    refine wp_seq (wp_seq (wp_region ?_))
    rw [hsz2]
    show wpOps P ops _ [0, 1] a w
    unfold cSeq at h1
    split at h1
    · cases h1
    rename_i S1 p hst
    simp only [cSeq, Option.some.injEq, Prod.mk.injEq, List.cons.injEq, and_true] at h1
    obtain ⟨rfl, rfl⟩ := h1
    rw [wpOps_cons]
    refine step_ok X hst q2 q3 (fun own2 w2 a2 hN2 => ?_)
    rw [wpOps_cons]
    refine nil_step ho hop hod hgd ((hC t ti hti).slice hde) hsh hcc hd hpd hN2 q4 (fun b own3 w3 a3 hb hN3 => ?_)
    show (Code.wp P cd _ a3 w3)
    refine wp_mono (code_ok X h2 hN3 (q5 b hb)) (fun en a w h => ?_)
    cases en with
    | normal =>
      obtain ⟨T', own', env', q1, q2, q3⟩ := h
      simp only [Option.some.injEq] at q1
      subst q1
      exact wp_mono (code_ok X h3 q2 q3) (fun en a w h => Post.mono (fun T e => ⟨T, e, .refl T⟩) (fun p hp => List.mem_append_right _ hp) (fun _ _ h => h) h)
    | exit id =>
      obtain ⟨T', own', env', q1, q2, q3⟩ := h
      exact ⟨T', own', env', List.mem_append_left _ q1, q2, q3⟩
    | ret => exact h
    | _ => exact h
  | exit id =>
    obtain ⟨T', own', env', q1, q2, q3, _⟩ := h
    cases q3
  | ret =>
    obtain ⟨S, l, R, own', env, q1, q2, q3, _⟩ := h
    cases q3
  | _ => exact h.elim
end

def isBR : CS → Bool
  | .b => true
  | .r => true
  | _ => false
theorem isBR_ok {c : CS} (h : isBR c = true) : c = .b ∨ c = .r := by
  cases c <;> simp_all [isBR]

def cIsNil (C : Cfg) (f : Func) (sig : Sig) : Option (PC × PS × Nat × Nat × PC × PC) :=
  match Nat.beq f.ntmps C.n && Nat.ble sig.ps.length C.n && (boxPs sig.ps 0).all (fun p => C.pin.any (Nat.beq p.1)) with
  | false => none
  | true => match f.body with
    | some (.seq r0 (.seq (.seq (.region _ ops false) cd) rest)) => match cCode C ⟨f.results.toList, sig⟩ r0 (start sig) with
      | some ⟨pc0, some T, []⟩ => match cSeq C ops [0] T with
        | some (T1, [p0]) => match ops[1]? with
          | some o => match o.op, o.dst, o.guard with
            | .binOp .eql t (.tmp s) (.const (.slice none 0 0)) _, some d, none => match C.ty t with
              | some ti => match ti.desc, look T1 s with
                | .slice _, .v false [c] => match isBR c && Nat.ble (d + 1) C.n && !C.pin.any (Nat.beq d) && Nat.beq ops.size 2 with
                  | true => match cCode C ⟨f.results.toList, sig⟩ cd (({ dst := some (d, .v false [.s]) } : Up).run T1) with
                    | some ⟨pcc, some Tc, _⟩ => match cCode C ⟨f.results.toList, sig⟩ rest Tc with
                      | some ⟨pcr, none, _⟩ => some (pc0, p0, s, d, pcc, pcr)
                      | _ => none
                    | _ => none
                  | false => none
                | _, _ => none
              | none => none
            | _, _, _ => none
          | none => none
        | _ => none
      | _ => none
    | _ => none

section
variable {P : Program} {C : Cfg} {W : Wld}
theorem cIsNil_ok (hC : CfgOk P C) (hE : EqOk P C) (hm : P.follows .mixedOrders = true) {f : Nat} {fn : Func} (hf : P.funcs[f]? = some fn) (hname : (fn.name == "runtime.NumGoroutine") = false) {sig : Sig} (hfine : sig.fine = true)
    {pc0 pcc pcr : PC} {p0 : PS} {s d : Nat} (hc : cIsNil C fn sig = some (pc0, p0, s, d, pcc, pcr)) {ins outs : List (List D)}
    (hp : pwp (FunOk P W) pc0 (fun x e => x = .normal ∧ ∃ e1 xs, PRel (FunOk P W) p0 e e1 ∧ e1 s = [.sl xs] ∧ ∀ b, (b = true → xs = []) → pwp (FunOk P W) pcc (PX.then (pwp (FunOk P W) pcr (RetIs outs)) (RetIs outs)) (put e1 d [.bool b])) (envL ins)) :
    FunOk P W f sig ins outs := by
  unfold cIsNil at hc
  split at hc
  · cases hc
  rename_i hk
  simp only [Bool.and_eq_true, nbeq] at hk
  obtain ⟨⟨k1, k2⟩, k3⟩ := hk
  split at hc
  rotate_left
  · cases hc
  rename_i r0 id ops cd rest hbody
  split at hc
  rotate_left
  · cases hc
  rename_i pc0' T h0
  split at hc
  rotate_left
  · cases hc
  rename_i T1 p0' h1
  split at hc
  rotate_left
  · cases hc
  rename_i o ho
  split at hc
  rotate_left
  · cases hc
  rename_i t s' t2 d' hop hod hgd
  split at hc
  rotate_left
  · cases hc
  rename_i ti hti
  split at hc
  rotate_left
  · cases hc
  rename_i e c hde hsh
  split at hc
  rotate_left
  · cases hc
  rename_i hb
  simp only [Bool.and_eq_true, Bool.not_eq_true', nbeq] at hb
  obtain ⟨⟨⟨b1, b2⟩, b3⟩, b4⟩ := hb
  split at hc
  rotate_left
  · cases hc
  rename_i pcc' Tc exc h2
  split at hc
  rotate_left
  · cases hc
  rename_i pcr' exr h3
  simp only [Option.some.injEq, Prod.mk.injEq] at hc
  obtain ⟨rfl, rfl, rfl, rfl, rfl, rfl⟩ := hc
  exact nilC_ok hC hE hm hf hname hfine k1 k2 k3 hbody ⟨⟨T, T1, Tc, o, t, t2, e, c, exc, exr, h0, h1, b4, ho, hop, hod, hgd, ⟨ti, hti, hde⟩, hsh, isBR_ok b1, Nat.le_of_ble_eq_true b2, b3, h2, h3⟩⟩ hp
end

end V
end Go.Proofs.Ytgialjcichiaoaa

/-
A function that cuts a list of its own at its length, and gives it back.
-/
namespace Go.Proofs.Ytgialjcichiaoaa
namespace V

def alOf : Sh → Option (Nat × Nat × Bool × Fz)
  | .v false [.al h k m f] => some (h, k, m, f)
  | _ => none

def cIsClip (C : Cfg) (fn : Func) (sig : Sig) : Option (PC × List PS × Nat × Nat × Nat × Nat × List PS × PC) :=
  match Nat.beq fn.ntmps C.n && Nat.ble sig.ps.length C.n && (boxPs sig.ps 0).all (fun p => C.pin.any (Nat.beq p.1)) with
  | false => none
  | true => match fn.body with
    | some (.seq r0 (.seq (.region _ ops false) rest)) => match cCode C ⟨fn.results.toList, sig⟩ r0 (start sig) with
      | some ⟨pc0, some T, []⟩ => match cSeq C ops [0, 1, 2, 3, 4] T with
        | some (T1, ps1) => match ops[5]? with
          | some o => match o.op, o.dst, o.guard with
            | .slice t (.tmp s) none (some (.tmp h)) (some (.tmp m)), some d, none => match C.ty t with
              | some ti => match ti.desc with
                | .slice e => match C.ty e with
                  | some ei => match alOf (look T1 s) with
                    | some (hh, kk, mm, f) => match scal (look T1) none (.tmp h) && scal (look T1) none (.tmp m) && Nat.ble (d + 1) C.n && !C.pin.any (Nat.beq d) && Nat.beq ops.size 7 && !Nat.beq hh d && Nat.beq ei.size f.sz with
                      | true => match cSeq C ops [6] (({ dst := some (d, .v false [.al hh kk mm f]) } : Up).run T1) with
                        | some (T3, ps3) => match cCode C ⟨fn.results.toList, sig⟩ rest T3 with
                          | some ⟨pcr, none, _⟩ => some (pc0, ps1, s, h, m, d, ps3, pcr)
                          | _ => none
                        | none => none
                      | false => none
                    | none => none
                  | none => none
                | _ => none
              | none => none
            | _, _, _ => none
          | none => none
        | none => none
      | _ => none
    | _ => none

section
variable {P : Program} {C : Cfg} {W : Wld} {T0 : Nat → Value} {w0 : World} {own0 : Own} {cx : Cx} {Φ : Ask} {F : Fin} {ops : Array Oper} {Q : Exit → Act → World → Prop}

theorem clip_step {S : St} {i d s h m hh kk : Nat} {mm : Bool} {f : Fz} {t : TypeId} {e : TypeId} {ei : TI} {o : Oper} {own : Own} {env : Env} {a : Act} {w : World} {xs : List (List D)} (hC : CfgOk P C) (ho : ops[i]? = some o) (hop : o.op = .slice t (.tmp s) none (some (.tmp h)) (some (.tmp m))) (hod : o.dst = some d) (hgd : o.guard = none)
    (ht : P.underlying t = some (.slice e)) (hei : C.ty e = some ei) (hsz : ei.size = f.sz) (hsh : look S s = .v false [.al hh kk mm f]) (hsc1 : scal (look S) none (.tmp h) = true) (hsc2 : scal (look S) none (.tmp m) = true) (hd : d < C.n) (hpin : C.pin.any (Nat.beq d) = false) (hne : hh ≠ d) (hN : Now C T0 w0 own0 cx S own env a w)
    (hs : env s = [.sl xs]) (hh1 : env h = [.int .i64 xs.length]) (hh2 : env m = [.int .i64 xs.length]) {K : Act → World → Prop}
    (hK : ∀ own' w' a', Now C T0 w0 own0 cx (({ dst := some (d, .v false [.al hh kk mm f]) } : Up).run S) own' (put env d [.sl xs]) a' w' → K a' w') : wpOp P ops Q i K a w := by
  unfold wpOp
  rw [ho]
  simp only
  rw [if_pos (wanted_none hgd)]
  left
  have hl := hN.inv.look s
  rw [hsh] at hl
  obtain ⟨vs, h1, h2, h3⟩ := hl
  have hvl := h2 rfl
  match vs, hvl with
  | [v], _ =>
    have hv : a.eval (.tmp s) = v := h1
    obtain ⟨hc1, hown⟩ := h3.2.2 0 _ (.sl xs) v rfl (by rw [hs]; rfl) rfl
    have hown : OwnRep w cx own (hh, kk + 1) mm f (.sl xs) v := hown
    obtain ⟨dx, vx, x1, x2, x3⟩ := opS (g := none) hN.inv.look (fun gs b e => by cases e) hsc1
    obtain ⟨dy, vy, y1, y2, y3⟩ := opS (g := none) hN.inv.look (fun gs b e => by cases e) hsc2
    have x2' : env h = [dx] := x2
    have y2' : env m = [dy] := y2
    rw [hh1] at x2'
    rw [hh2] at y2'
    simp only [List.cons.injEq, and_true] at x2' y2'
    subst x2'; subst y2'
    have hvx := x3.int'
    have hvy := y3.int'
    subst hvx; subst hvy
    have hes := fun w2 => (hC e ei hei).size w2
    have hrun : ∃ v', (∀ w2 : World, (execOp a.eval o).run P w2 = .ok (.value v') w2) ∧ Cell1 v' ∧ OwnRep w cx own (hh, kk + 1) mm f (.sl xs) v' := by
      have hb : ∀ w2 cap, xs.length ≤ cap → (Instr.sliceBounds true xs.length cap (none : Option Value) (some (.int .i64 (xs.length : Int))) (some (.int .i64 (xs.length : Int)))).run P w2 = .ok (0, xs.length, xs.length) w2 := fun w2 cap hcap =>
        run_bounds P w2 true xs.length cap 0 xs.length xs.length none (some (.int .i64 (xs.length : Int))) (some (.int .i64 (xs.length : Int))) (.inl ⟨rfl, rfl⟩) (.inr ⟨_, rfl⟩) (.inr ⟨_, rfl⟩) (Nat.zero_le _) (Nat.le_refl _) hcap
      cases hown with
      | nil =>
        refine ⟨.slice none 0 0, fun w2 => ?_, ⟨fun c h => (by cases h), fun c h => (by cases h)⟩, .nil⟩
        have hb0 : (Instr.sliceBounds true 0 0 (none : Option Value) (some (.int .i64 0)) (some (.int .i64 0))).run P w2 = .ok (0, 0, 0) w2 := hb w2 0 (Nat.le_refl 0)
        unfold execOp
        simp [hop, hv, x1, y1, Instr.sliceAt, Instr.slice, run_underlying ht, hes w2, hb0]
      | sl xs g cap cur T fr vs q1 q2 q3 q4 q5 q6 q7 q8 q9 q10 =>
        refine ⟨.slice (some ⟨g, 0, none⟩) xs.length xs.length, fun w2 => ?_, ⟨fun c h => (by cases h), fun c h => (by cases h)⟩, ?_⟩
        · have hb0 := hb w2 cap q3
          unfold execOp
          simp only [hop, hv, Option.map_none, Option.map_some, x1, y1, Instr.sliceAt, Instr.slice, Sem.run_bind, run_underlying ht, Result.andThen_ok, hes w2, hb0, Sem.run_pure]
          by_cases hx : xs.length = 0 <;> simp [hx, Addr.add]
        · have hle : xs.length * f.sz ≤ cap * f.sz := Nat.mul_le_mul_right _ q3
          exact .sl xs g xs.length cur T fr vs q1 q2 (Nat.le_refl _) (by omega) (by omega) (fun o ho => q6 o (by omega)) q7 q8 q9 q10
    obtain ⟨v', r1, r2, r3⟩ := hrun
    have hq : RunsQ P cx own w a env o { dst := some (d, .v false [.al hh kk mm f]) } (put env d [.sl xs]) := by
      refine runs_putQ hN.wok hod (by rw [hN.size]; exact hd) ?_ rfl r1 ?_
      · show ([CS.al hh kk mm f].any (Sh.names.nm d)) = false
        have hnb : Nat.beq hh d = false := by
          cases hx : Nat.beq hh d with
          | false => rfl
          | true => exact absurd (nbeq.1 hx) hne
        simp [Sh.names.nm, hnb]
      · exact slot_one (by rw [hN.size]; exact hd) ⟨r2, r3⟩
    refine hq.opOk K Q (fun own' w' a' hD => hK own' w' a' (hN.done hD ?_))
    intro d' sh' h
    simp only [Option.some.injEq, Prod.mk.injEq] at h
    rw [← h.1]; exact hpin

theorem seq_then (X : Ctx P C W w0 own0 Φ) : ∀ {l m : List Nat} {S S' : St} {ps : List PS} {own : Own} {env env' : Env} {a : Act} {w : World}, cSeq C ops l S = some (S', ps) → Now C T0 w0 own0 cx S own env a w → PRels Φ ps env env' →
    (∀ own' w' a', Now C T0 w0 own0 cx S' own' env' a' w' → wpOps P ops Q m a' w') → wpOps P ops Q (l ++ m) a w
  | [], m, S, S', ps, own, env, env', a, w, h, hN, hp, hQ => by
    simp only [cSeq, Option.some.injEq, Prod.mk.injEq] at h
    obtain ⟨rfl, rfl⟩ := h
    simp only [PRels] at hp
    subst hp
    exact hQ own w a hN
  | i :: r, m, S, S', ps, own, env, env', a, w, h, hN, hp, hQ => by
    simp only [cSeq] at h
    split at h
    · cases h
    rename_i S1 p hc
    split at h
    · cases h
    rename_i S2 ps2 hs
    simp only [Option.some.injEq, Prod.mk.injEq] at h
    obtain ⟨rfl, rfl⟩ := h
    obtain ⟨e1, h1, h2⟩ := hp
    rw [List.cons_append, wpOps_cons]
    exact step_ok X hc hN h1 (fun own' w' a' hN' => seq_then X hs hN' h2 hQ)
theorem cIsClip_ok (hC : CfgOk P C) (hE : EqOk P C) (hm : P.follows .mixedOrders = true) {f : Nat} {fn : Func} (hf : P.funcs[f]? = some fn) (hname : (fn.name == "runtime.NumGoroutine") = false) {sig : Sig} (hfine : sig.fine = true)
    {pc0 pcr : PC} {ps1 ps3 : List PS} {s h m d : Nat} (hc : cIsClip C fn sig = some (pc0, ps1, s, h, m, d, ps3, pcr)) {ins outs : List (List D)}
    (hp : pwp (FunOk P W) pc0 (fun x e => x = .normal ∧ ∃ e1 xs, PRels (FunOk P W) ps1 e e1 ∧ e1 s = [.sl xs] ∧ e1 h = [.int .i64 xs.length] ∧ e1 m = [.int .i64 xs.length] ∧ ∃ e3, PRels (FunOk P W) ps3 (put e1 d [.sl xs]) e3 ∧ pwp (FunOk P W) pcr (RetIs outs) e3) (envL ins)) :
    FunOk P W f sig ins outs := by
  unfold cIsClip at hc
  split at hc
  · cases hc
  rename_i hk
  simp only [Bool.and_eq_true, nbeq] at hk
  obtain ⟨⟨k1, k2⟩, k3⟩ := hk
  split at hc
  rotate_left
  · cases hc
  rename_i r0 id ops rest hbody
  split at hc
  rotate_left
  · cases hc
  rename_i pc0' T h0
  split at hc
  rotate_left
  · cases hc
  rename_i T1 ps1' h1
  split at hc
  rotate_left
  · cases hc
  rename_i o ho
  split at hc
  rotate_left
  · cases hc
  rename_i t s' hi' mx' d' hop hod hgd
  split at hc
  rotate_left
  · cases hc
  rename_i ti hti
  split at hc
  rotate_left
  · cases hc
  rename_i e hde
  split at hc
  rotate_left
  · cases hc
  rename_i ei hei
  split at hc
  rotate_left
  · cases hc
  rename_i hh kk mm fz hal
  split at hc
  rotate_left
  · cases hc
  rename_i hb
  simp only [Bool.and_eq_true, Bool.not_eq_true', nbeq] at hb
  obtain ⟨⟨⟨⟨⟨⟨b1, b2⟩, b3⟩, b4⟩, b5⟩, b6⟩, b7⟩ := hb
  split at hc
  rotate_left
  · cases hc
  rename_i T3 ps3' h2
  split at hc
  rotate_left
  · cases hc
  rename_i pcr' exr h3
  simp only [Option.some.injEq, Prod.mk.injEq] at hc
  obtain ⟨rfl, rfl, rfl, rfl, rfl, rfl, rfl, rfl⟩ := hc
  have hsh : look T1 s' = .v false [.al hh kk mm fz] := by
    unfold alOf at hal
    split at hal
    · rename_i h9
      simp only [Option.some.injEq, Prod.mk.injEq] at hal
      obtain ⟨rfl, rfl, rfl, rfl⟩ := hal
      exact h9
    · cases hal
  refine fun_wp (ex := exr) hC hf hname hfine k1 k2 k3 hbody (fun {w own cx vals a} hP hlow hN => ?_)
  have X : Ctx P C W w own (FunOk P W) := ⟨hC, hE, fun _ _ _ _ h => h, hP, hlow, hm⟩
  refine wp_seq (wp_mono (code_ok X h0 hN hp) (fun en a w h => ?_))
  cases en with
  | normal =>
    obtain ⟨T', own1, env1, q1, q2, _, e1, xs, q3, q4, q5, q6, e3, q7, q8⟩ := h
    simp only [Option.some.injEq] at q1
    subst q1
    refine wp_seq (wp_region ?_)
    rw [b5]
    have hne : hh ≠ d' := fun e => by rw [e, Nat.beq_refl] at b6; cases b6
    show wpOps P ops _ ([0, 1, 2, 3, 4] ++ [5, 6]) a w
    refine seq_then X h1 q2 q3 (fun own2 w2 a2 hN2 => ?_)
    show wpOps P ops _ [5, 6] a2 w2
    rw [wpOps_cons]
    refine clip_step hC ho hop hod hgd ((hC t ti hti).slice hde) hei b7 hsh b1 b2 (Nat.le_of_ble_eq_true b3) b4 hne hN2 q4 q5 q6 (fun own3 w3 a3 hN3 => ?_)
    exact seq_ok X h2 hN3 q7 (fun own4 w4 a4 hN4 => code_ok X h3 hN4 q8)
  | exit id =>
    obtain ⟨T', own', env', q1, q2, q3, _⟩ := h
    cases q3
  | ret =>
    obtain ⟨S, l, R, own', env, q1, q2, q3, _⟩ := h
    cases q3
  | _ => exact h.elim
end
end V
end Go.Proofs.Ytgialjcichiaoaa

/-
The seat's own numbers: types, functions, how each is called. Written by a program.
-/
namespace Go.Proofs.Ytgialjcichiaoaa
namespace V

noncomputable abbrev PP : Program := Try.prog
def tt : TT := .n 120 ⟨2, 16, [.int .i64 0, .int .i64 0], (.struct [(0, 3), (1, 3)])⟩ (.n 61 ⟨1, 8, [.bad], .other⟩ (.n 30 ⟨1, 8, [.bad], .other⟩ (.n 15 ⟨1, 8, [.bad], (.ptr 223)⟩ (.n 8 ⟨4, 24, [.int .i64 0, .int .i64 0, .bool false, .int .u8 0], (.struct [(0, 2), (1, 3), (2, 4), (3, 6)])⟩ (.n 4 ⟨1, 1, [.bool false], .bool⟩ (.n 2 ⟨1, 8, [.int .i64 0], (.int .i64)⟩ (.n 1 ⟨1, 8, [.bad], .other⟩ (.e) (.e)) (.n 3 ⟨1, 8, [.int .i64 0], (.int .i64)⟩ (.e) (.e))) (.n 6 ⟨1, 1, [.int .u8 0], (.int .u8)⟩ (.n 5 ⟨1, 1, [.int .u8 0], (.int .u8)⟩ (.e) (.e)) (.n 7 ⟨4, 24, [.int .i64 0, .int .i64 0, .bool false, .int .u8 0], (.struct [(0, 2), (1, 3), (2, 4), (3, 6)])⟩ (.e) (.e)))) (.n 12 ⟨1, 8, [.int .u64 0], (.int .u64)⟩ (.n 10 ⟨1, 16, [.str ⟨#[]⟩], .str⟩ (.n 9 ⟨1, 16, [.str ⟨#[]⟩], .str⟩ (.e) (.e)) (.n 11 ⟨1, 16, [.str ⟨#[]⟩], .str⟩ (.e) (.e))) (.n 14 ⟨2, 24, [.str ⟨#[]⟩, .int .u64 0], (.struct [(0, 9), (1, 12)])⟩ (.n 13 ⟨2, 24, [.str ⟨#[]⟩, .int .u64 0], (.struct [(0, 9), (1, 12)])⟩ (.e) (.e)) (.e)))) (.n 22 ⟨1, 24, [.sl []], (.slice 5)⟩ (.n 19 ⟨1, 8, [.bad], (.struct [(0, 17)])⟩ (.n 17 ⟨1, 8, [.bad], (.ptr 235)⟩ (.n 16 ⟨1, 8, [.bad], (.ptr 226)⟩ (.e) (.e)) (.n 18 ⟨1, 8, [.bad], (.struct [(0, 17)])⟩ (.e) (.e))) (.n 21 ⟨1, 4, [.int .i32 0], (.int .i32)⟩ (.n 20 ⟨1, 16, [.bad], .other⟩ (.e) (.e)) (.e))) (.n 26 ⟨4, 80, [.sl [], .sl [], .bool false, .sl []], (.struct [(0, 23), (1, 24), (2, 4), (3, 23)])⟩ (.n 24 ⟨1, 24, [.sl []], (.slice 3)⟩ (.n 23 ⟨1, 24, [.sl []], (.slice 104)⟩ (.e) (.e)) (.n 25 ⟨4, 80, [.sl [], .sl [], .bool false, .sl []], (.struct [(0, 23), (1, 24), (2, 4), (3, 23)])⟩ (.e) (.e))) (.n 29 ⟨1, 8, [.bad], .other⟩ (.n 27 ⟨1, 8, [.bad], .other⟩ (.e) (.e)) (.e))))) (.n 45 ⟨1, 8, [.bad], .other⟩ (.n 38 ⟨4, 48, [.int .i64 0, .int .i64 0, .int .i64 0, .sl []], (.struct [(0, 3), (1, 3), (2, 3), (3, 34)])⟩ (.n 34 ⟨1, 24, [.sl []], (.slice 128)⟩ (.n 32 ⟨1, 8, [.bad], .other⟩ (.n 31 ⟨1, 8, [.bad], .other⟩ (.e) (.e)) (.n 33 ⟨1, 8, [.bad], .other⟩ (.e) (.e))) (.n 36 ⟨4, 80, [.sl [], .sl [], .bool false, .sl []], (.struct [(0, 34), (1, 24), (2, 4), (3, 34)])⟩ (.n 35 ⟨4, 80, [.sl [], .sl [], .bool false, .sl []], (.struct [(0, 34), (1, 24), (2, 4), (3, 34)])⟩ (.e) (.e)) (.n 37 ⟨4, 48, [.int .i64 0, .int .i64 0, .int .i64 0, .sl []], (.struct [(0, 3), (1, 3), (2, 3), (3, 34)])⟩ (.e) (.e)))) (.n 42 ⟨1, 8, [.bad], .other⟩ (.n 40 ⟨1, 8, [.bad], .other⟩ (.n 39 ⟨1, 8, [.bad], .other⟩ (.e) (.e)) (.n 41 ⟨1, 8, [.bad], .other⟩ (.e) (.e))) (.n 44 ⟨4, 48, [.int .i64 0, .int .i64 0, .int .i64 0, .sl []], (.struct [(0, 3), (1, 3), (2, 3), (3, 23)])⟩ (.n 43 ⟨4, 48, [.int .i64 0, .int .i64 0, .int .i64 0, .sl []], (.struct [(0, 3), (1, 3), (2, 3), (3, 23)])⟩ (.e) (.e)) (.e)))) (.n 53 ⟨1, 8, [.bad], .other⟩ (.n 49 ⟨1, 8, [.bad], .other⟩ (.n 47 ⟨1, 8, [.bad], .other⟩ (.n 46 ⟨1, 8, [.bad], .other⟩ (.e) (.e)) (.n 48 ⟨1, 8, [.bad], .other⟩ (.e) (.e))) (.n 52 ⟨1, 24, [.sl []], (.slice 44)⟩ (.n 51 ⟨1, 8, [.bad], .other⟩ (.e) (.e)) (.e))) (.n 57 ⟨1, 8, [.bad], .other⟩ (.n 55 ⟨1, 8, [.bad], .other⟩ (.n 54 ⟨1, 8, [.bad], .other⟩ (.e) (.e)) (.n 56 ⟨1, 8, [.bad], .other⟩ (.e) (.e))) (.n 60 ⟨1, 8, [.bad], .other⟩ (.n 58 ⟨1, 8, [.bad], .other⟩ (.e) (.e)) (.e)))))) (.n 91 ⟨1, 8, [.bad], .other⟩ (.n 76 ⟨3, 40, [.int .i64 0, .int .i64 0, .sl []], (.struct [(0, 3), (1, 3), (2, 74)])⟩ (.n 69 ⟨3, 40, [.int .i64 0, .sl [], .int .i64 0], (.struct [(0, 3), (1, 24), (2, 3)])⟩ (.n 65 ⟨1, 8, [.bad], .other⟩ (.n 63 ⟨1, 8, [.bad], .other⟩ (.n 62 ⟨1, 8, [.bad], .other⟩ (.e) (.e)) (.n 64 ⟨1, 8, [.bad], .other⟩ (.e) (.e))) (.n 67 ⟨1, 8, [.bad], .other⟩ (.n 66 ⟨1, 8, [.bad], .other⟩ (.e) (.e)) (.n 68 ⟨3, 40, [.int .i64 0, .sl [], .int .i64 0], (.struct [(0, 3), (1, 24), (2, 3)])⟩ (.e) (.e)))) (.n 73 ⟨3, 40, [.int .i64 0, .sl [], .int .i64 0], (.struct [(0, 3), (1, 24), (2, 3)])⟩ (.n 71 ⟨1, 24, [.sl []], (.slice 146)⟩ (.n 70 ⟨1, 8, [.bad], .other⟩ (.e) (.e)) (.n 72 ⟨1, 24, [.sl []], (.slice 186)⟩ (.e) (.e))) (.n 75 ⟨3, 40, [.int .i64 0, .int .i64 0, .sl []], (.struct [(0, 3), (1, 3), (2, 74)])⟩ (.n 74 ⟨1, 24, [.sl []], (.slice 215)⟩ (.e) (.e)) (.e)))) (.n 84 ⟨1, 8, [.bad], .other⟩ (.n 80 ⟨17, 296, [.int .i64 0, .sl [], .sl [], .sl [], .sl [], .int .i64 0, .sl [], .int .i64 0, .bool false, .int .i64 0, .int .i64 0, .sl [], .sl [], .sl [], .sl [], .bool false, .sl []], (.struct [(0, 3), (1, 71), (2, 72), (3, 23), (4, 24), (5, 78), (12, 23), (13, 26)])⟩ (.n 78 ⟨7, 88, [.int .i64 0, .sl [], .int .i64 0, .bool false, .int .i64 0, .int .i64 0, .sl []], (.struct [(0, 73), (3, 4), (4, 76)])⟩ (.n 77 ⟨7, 88, [.int .i64 0, .sl [], .int .i64 0, .bool false, .int .i64 0, .int .i64 0, .sl []], (.struct [(0, 73), (3, 4), (4, 76)])⟩ (.e) (.e)) (.n 79 ⟨17, 296, [.int .i64 0, .sl [], .sl [], .sl [], .sl [], .int .i64 0, .sl [], .int .i64 0, .bool false, .int .i64 0, .int .i64 0, .sl [], .sl [], .sl [], .sl [], .bool false, .sl []], (.struct [(0, 3), (1, 71), (2, 72), (3, 23), (4, 24), (5, 78), (12, 23), (13, 26)])⟩ (.e) (.e))) (.n 83 ⟨1, 8, [.bad], .other⟩ (.n 82 ⟨1, 8, [.bad], .other⟩ (.e) (.e)) (.e))) (.n 88 ⟨1, 8, [.bad], .other⟩ (.n 86 ⟨1, 8, [.bad], .other⟩ (.n 85 ⟨1, 8, [.bad], .other⟩ (.e) (.e)) (.n 87 ⟨1, 8, [.bad], .other⟩ (.e) (.e))) (.n 90 ⟨1, 8, [.bad], .other⟩ (.n 89 ⟨1, 8, [.bad], .other⟩ (.e) (.e)) (.e))))) (.n 106 ⟨1, 8, [.bad], .other⟩ (.n 99 ⟨1, 8, [.bad], .other⟩ (.n 95 ⟨1, 8, [.bad], .other⟩ (.n 93 ⟨1, 24, [.sl []], (.slice 38)⟩ (.n 92 ⟨1, 8, [.bad], .other⟩ (.e) (.e)) (.n 94 ⟨1, 8, [.bad], .other⟩ (.e) (.e))) (.n 97 ⟨1, 8, [.bad], .other⟩ (.n 96 ⟨1, 8, [.bad], .other⟩ (.e) (.e)) (.n 98 ⟨1, 8, [.bad], .other⟩ (.e) (.e)))) (.n 103 ⟨4, 64, [.int .i64 0, .int .i64 0, .sl [], .sl []], (.struct [(0, 3), (1, 3), (2, 101), (3, 102)])⟩ (.n 101 ⟨1, 24, [.sl []], (.slice 121)⟩ (.n 100 ⟨1, 8, [.bad], .other⟩ (.e) (.e)) (.n 102 ⟨1, 24, [.sl []], (.slice 118)⟩ (.e) (.e))) (.n 105 ⟨1, 8, [.bad], .other⟩ (.n 104 ⟨4, 64, [.int .i64 0, .int .i64 0, .sl [], .sl []], (.struct [(0, 3), (1, 3), (2, 101), (3, 102)])⟩ (.e) (.e)) (.e)))) (.n 113 ⟨1, 8, [.bad], .other⟩ (.n 110 ⟨1, 8, [.bad], .other⟩ (.n 108 ⟨1, 8, [.bad], .other⟩ (.n 107 ⟨1, 8, [.bad], .other⟩ (.e) (.e)) (.n 109 ⟨1, 8, [.bad], (.ptr 157)⟩ (.e) (.e))) (.n 112 ⟨1, 8, [.bad], .other⟩ (.n 111 ⟨1, 8, [.bad], .other⟩ (.e) (.e)) (.e))) (.n 117 ⟨2, 16, [.int .i64 0, .int .i64 0], (.struct [(0, 3), (1, 3)])⟩ (.n 115 ⟨1, 8, [.bad], .other⟩ (.n 114 ⟨1, 8, [.bad], .other⟩ (.e) (.e)) (.n 116 ⟨1, 8, [.bad], .other⟩ (.e) (.e))) (.n 119 ⟨1, 8, [.bad], .other⟩ (.n 118 ⟨2, 16, [.int .i64 0, .int .i64 0], (.struct [(0, 3), (1, 3)])⟩ (.e) (.e)) (.e))))))) (.n 182 ⟨1, 8, [.bad], .other⟩ (.n 151 ⟨1, 8, [.bad], .other⟩ (.n 136 ⟨1, 8, [.bad], .other⟩ (.n 128 ⟨4, 64, [.int .i64 0, .int .i64 0, .sl [], .sl []], (.struct [(0, 3), (1, 3), (2, 125), (3, 126)])⟩ (.n 124 ⟨1, 8, [.bad], .other⟩ (.n 122 ⟨1, 8, [.bad], .other⟩ (.n 121 ⟨2, 16, [.int .i64 0, .int .i64 0], (.struct [(0, 3), (1, 3)])⟩ (.e) (.e)) (.n 123 ⟨1, 8, [.bad], .other⟩ (.e) (.e))) (.n 126 ⟨1, 24, [.sl []], (.slice 207)⟩ (.n 125 ⟨1, 24, [.sl []], (.slice 205)⟩ (.e) (.e)) (.n 127 ⟨4, 64, [.int .i64 0, .int .i64 0, .sl [], .sl []], (.struct [(0, 3), (1, 3), (2, 125), (3, 126)])⟩ (.e) (.e)))) (.n 132 ⟨1, 8, [.bad], .other⟩ (.n 130 ⟨1, 8, [.bad], .other⟩ (.n 129 ⟨1, 8, [.bad], .other⟩ (.e) (.e)) (.n 131 ⟨1, 8, [.bad], .other⟩ (.e) (.e))) (.n 135 ⟨1, 8, [.bad], .other⟩ (.n 134 ⟨1, 8, [.bad], .other⟩ (.e) (.e)) (.e)))) (.n 144 ⟨1, 8, [.bad], .other⟩ (.n 140 ⟨1, 8, [.bad], .other⟩ (.n 138 ⟨1, 8, [.bad], .other⟩ (.n 137 ⟨1, 8, [.bad], .other⟩ (.e) (.e)) (.n 139 ⟨1, 8, [.bad], .other⟩ (.e) (.e))) (.n 143 ⟨1, 8, [.bad], .other⟩ (.n 141 ⟨1, 8, [.bad], .other⟩ (.e) (.e)) (.e))) (.n 148 ⟨1, 8, [.bad], .other⟩ (.n 146 ⟨4, 64, [.int .i64 0, .sl [], .int .i64 0, .sl []], (.struct [(0, 73), (3, 24)])⟩ (.n 145 ⟨4, 64, [.int .i64 0, .sl [], .int .i64 0, .sl []], (.struct [(0, 73), (3, 24)])⟩ (.e) (.e)) (.n 147 ⟨1, 8, [.bad], .other⟩ (.e) (.e))) (.n 150 ⟨1, 8, [.bad], .other⟩ (.n 149 ⟨1, 8, [.bad], .other⟩ (.e) (.e)) (.e))))) (.n 166 ⟨1, 8, [.int .u64 0], (.int .u64)⟩ (.n 159 ⟨1, 8, [.bad], .other⟩ (.n 155 ⟨1, 8, [.bad], (.ptr 26)⟩ (.n 153 ⟨1, 8, [.bad], .other⟩ (.n 152 ⟨1, 8, [.bad], .other⟩ (.e) (.e)) (.n 154 ⟨1, 8, [.bad], .other⟩ (.e) (.e))) (.n 157 ⟨2, 32, [.sl [], .int .i64 0], (.struct [(0, 22), (1, 3)])⟩ (.n 156 ⟨2, 32, [.sl [], .int .i64 0], (.struct [(0, 22), (1, 3)])⟩ (.e) (.e)) (.n 158 ⟨1, 8, [.bad], .other⟩ (.e) (.e)))) (.n 163 ⟨1, 8, [.bad], .other⟩ (.n 161 ⟨1, 8, [.bad], .other⟩ (.n 160 ⟨6, 6, [.bool false, .bool false, .bool false, .bool false, .bool false, .bool false], (.array 6 4)⟩ (.e) (.e)) (.n 162 ⟨1, 8, [.bad], .other⟩ (.e) (.e))) (.n 165 ⟨1, 8, [.bad], .other⟩ (.n 164 ⟨1, 8, [.bad], .other⟩ (.e) (.e)) (.e)))) (.n 174 ⟨1, 8, [.bad], .other⟩ (.n 171 ⟨1, 24, [.sl []], (.slice 4)⟩ (.n 169 ⟨1, 8, [.bad], .other⟩ (.n 168 ⟨1, 8, [.bad], .other⟩ (.e) (.e)) (.n 170 ⟨1, 8, [.bad], .other⟩ (.e) (.e))) (.n 173 ⟨1, 8, [.bad], .other⟩ (.n 172 ⟨1, 8, [.bad], .other⟩ (.e) (.e)) (.e))) (.n 179 ⟨1, 8, [.bad], .other⟩ (.n 176 ⟨1, 8, [.bad], .other⟩ (.n 175 ⟨1, 8, [.bad], .other⟩ (.e) (.e)) (.n 178 ⟨1, 8, [.bad], .other⟩ (.e) (.e))) (.n 181 ⟨1, 8, [.bad], .other⟩ (.n 180 ⟨1, 8, [.bad], .other⟩ (.e) (.e)) (.e)))))) (.n 213 ⟨1, 8, [.bad], .other⟩ (.n 197 ⟨1, 8, [.bad], .other⟩ (.n 190 ⟨1, 8, [.bad], .other⟩ (.n 186 ⟨4, 64, [.int .i64 0, .int .i64 0, .sl [], .sl []], (.struct [(0, 76), (3, 24)])⟩ (.n 184 ⟨1, 8, [.bad], .other⟩ (.n 183 ⟨1, 8, [.bad], .other⟩ (.e) (.e)) (.n 185 ⟨4, 64, [.int .i64 0, .int .i64 0, .sl [], .sl []], (.struct [(0, 76), (3, 24)])⟩ (.e) (.e))) (.n 188 ⟨1, 8, [.bad], .other⟩ (.n 187 ⟨1, 8, [.bad], .other⟩ (.e) (.e)) (.n 189 ⟨1, 8, [.bad], .other⟩ (.e) (.e)))) (.n 194 ⟨1, 8, [.bad], .other⟩ (.n 192 ⟨1, 8, [.bad], .other⟩ (.n 191 ⟨1, 8, [.bad], .other⟩ (.e) (.e)) (.n 193 ⟨1, 8, [.bad], .other⟩ (.e) (.e))) (.n 196 ⟨1, 8, [.bad], .other⟩ (.n 195 ⟨1, 8, [.bad], .other⟩ (.e) (.e)) (.e)))) (.n 206 ⟨1, 8, [.bad], .other⟩ (.n 203 ⟨1, 8, [.bad], .other⟩ (.n 200 ⟨1, 8, [.bad], .other⟩ (.n 198 ⟨1, 4, [.int .u32 0], (.int .u32)⟩ (.e) (.e)) (.n 201 ⟨1, 8, [.int .u64 0], (.int .u64)⟩ (.e) (.e))) (.n 205 ⟨2, 16, [.int .i64 0, .int .i64 0], (.struct [(0, 3), (1, 3)])⟩ (.n 204 ⟨1, 8, [.bad], .other⟩ (.e) (.e)) (.e))) (.n 210 ⟨1, 8, [.bad], .other⟩ (.n 208 ⟨1, 8, [.bad], .other⟩ (.n 207 ⟨2, 16, [.int .i64 0, .int .i64 0], (.struct [(0, 3), (1, 3)])⟩ (.e) (.e)) (.n 209 ⟨1, 8, [.bad], .other⟩ (.e) (.e))) (.n 212 ⟨1, 8, [.bad], .other⟩ (.n 211 ⟨1, 8, [.bad], .other⟩ (.e) (.e)) (.e))))) (.n 227 ⟨1, 8, [.bad], .other⟩ (.n 220 ⟨1, 8, [.bad], .other⟩ (.n 217 ⟨1, 8, [.bad], .other⟩ (.n 215 ⟨3, 24, [.int .i64 0, .int .i64 0, .int .i64 0], (.struct [(0, 3), (1, 3), (2, 3)])⟩ (.n 214 ⟨3, 24, [.int .i64 0, .int .i64 0, .int .i64 0], (.struct [(0, 3), (1, 3), (2, 3)])⟩ (.e) (.e)) (.n 216 ⟨1, 8, [.bad], .other⟩ (.e) (.e))) (.n 219 ⟨1, 8, [.bad], .other⟩ (.n 218 ⟨1, 8, [.bad], .other⟩ (.e) (.e)) (.e))) (.n 224 ⟨0, 0, [], (.array 0 16)⟩ (.n 222 ⟨4, 40, [.bad, .bad, .bad, .str ⟨#[]⟩], (.struct [(0, 17), (1, 17), (2, 17), (3, 9)])⟩ (.n 221 ⟨1, 8, [.bad], .other⟩ (.e) (.e)) (.n 223 ⟨4, 40, [.bad, .bad, .bad, .str ⟨#[]⟩], (.struct [(0, 17), (1, 17), (2, 17), (3, 9)])⟩ (.e) (.e))) (.n 226 ⟨0, 0, [], (.struct [(0, 224)])⟩ (.n 225 ⟨0, 0, [], (.struct [(0, 224)])⟩ (.e) (.e)) (.e)))) (.n 234 ⟨11, 48, [.int .u64 0, .int .u64 0, .int .u32 0, .int .u8 0, .int .u8 0, .int .u8 0, .int .u8 0, .bad, .bad, .int .i32 0, .int .i32 0], (.struct [(0, 12), (1, 12), (2, 198), (3, 228), (4, 5), (5, 5), (6, 229), (7, 230), (8, 231), (9, 232), (10, 233)])⟩ (.n 231 ⟨1, 8, [.bad], (.ptr 5)⟩ (.n 229 ⟨1, 1, [.int .u8 0], (.int .u8)⟩ (.n 228 ⟨1, 1, [.int .u8 0], (.int .u8)⟩ (.e) (.e)) (.n 230 ⟨1, 8, [.bad], .other⟩ (.e) (.e))) (.n 233 ⟨1, 4, [.int .i32 0], (.int .i32)⟩ (.n 232 ⟨1, 4, [.int .i32 0], (.int .i32)⟩ (.e) (.e)) (.e))) (.n 238 ⟨1, 8, [.bad], .other⟩ (.n 236 ⟨1, 8, [.bad], .other⟩ (.n 235 ⟨11, 48, [.int .u64 0, .int .u64 0, .int .u32 0, .int .u8 0, .int .u8 0, .int .u8 0, .int .u8 0, .bad, .bad, .int .i32 0, .int .i32 0], (.struct [(0, 12), (1, 12), (2, 198), (3, 228), (4, 5), (5, 5), (6, 229), (7, 230), (8, 231), (9, 232), (10, 233)])⟩ (.e) (.e)) (.n 237 ⟨1, 8, [.bad], .other⟩ (.e) (.e))) (.n 240 ⟨1, 8, [.bad], .other⟩ (.n 239 ⟨1, 8, [.bad], .other⟩ (.e) (.e)) (.e)))))))
abbrev n_main_main : Nat := 0
abbrev n_gosem_cut : Nat := 1
abbrev n_gosem_cut_init : Nat := 2
abbrev n_l_FnMendTrue : Nat := 3
abbrev n_l_FnExactDiskDo : Nat := 4
abbrev n_l_FnInstTwo : Nat := 5
abbrev n_l_FnStepsNone : Nat := 6
abbrev n_l_FnExactPlanFor : Nat := 7
abbrev n_l_FnCutMend : Nat := 8
abbrev n_l_FnExactInstMends : Nat := 9
abbrev n_l_FnExactWorldNew : Nat := 10
abbrev n_l_FnExactInstSteps : Nat := 11
abbrev n_l_FnExactInstTo : Nat := 12
abbrev n_l_FnExactInstMend : Nat := 13
abbrev n_s_DrawInstMend : Nat := 14
abbrev n_s_InstMend : Nat := 15
abbrev n_i_InstMend : Nat := 16
abbrev n_l_luDisk : Nat := 17
abbrev n_i_DiskTrue : Nat := 18
abbrev n_l_luPkgs : Nat := 19
abbrev n_l_szDisk : Nat := 20
abbrev n_l_szStep : Nat := 21
abbrev n_s_DiskDo : Nat := 22
abbrev n_l_toDisk : Nat := 23
abbrev n_l_toStep : Nat := 24
abbrev n_i_DiskDo : Nat := 25
abbrev n_l_eqDisk : Nat := 26
abbrev n_l_eqStep : Nat := 27
abbrev n_l_markDisk : Nat := 28
abbrev n_l_markStep : Nat := 29
abbrev n_l_heldDisk : Nat := 30
abbrev n_s_DrawInstSteps : Nat := 31
abbrev n_i_InstSteps : Nat := 32
abbrev n_s_InstSteps : Nat := 33
abbrev n_s_PlanOk : Nat := 34
abbrev n_i_InstTo : Nat := 35
abbrev n_i_DiskNew : Nat := 36
abbrev n_l_szPkgS : Nat := 37
abbrev n_s_PlanFor : Nat := 38
abbrev n_l_toPkgS : Nat := 39
abbrev n_i_PlanFor : Nat := 40
abbrev n_l_eqPkgS : Nat := 41
abbrev n_l_markPkgS : Nat := 42
abbrev n_l_heldPkgS : Nat := 43
abbrev n_s_InstMends : Nat := 44
abbrev n_i_InstMends : Nat := 45
abbrev n_l_eqStepS : Nat := 46
abbrev n_l_markStepS : Nat := 47
abbrev n_l_heldStepS : Nat := 48
abbrev n_l_szRoot : Nat := 49
abbrev n_s_WorldNew : Nat := 50
abbrev n_l_toRoot : Nat := 51
abbrev n_l_toIntS : Nat := 52
abbrev n_i_WorldNew : Nat := 53
abbrev n_l_eqWorld : Nat := 54
abbrev n_l_eqRoot : Nat := 55
abbrev n_l_eqIntS : Nat := 56
abbrev n_l_markRoot : Nat := 57
abbrev n_l_markIntS : Nat := 58
abbrev n_l_markWorld : Nat := 59
abbrev n_l_heldWorld : Nat := 60
abbrev n_l_szStepS : Nat := 61
abbrev n_s_InstTo : Nat := 62
abbrev n_l_toStepS : Nat := 63
abbrev n_s_DrawDiskOk : Nat := 64
abbrev n_s_DiskOk : Nat := 65
abbrev n_s_l22Mends : Nat := 66
abbrev n_s_l22To : Nat := 67
abbrev n_s_l21Copy : Nat := 68
abbrev n_l_luInts : Nat := 69
abbrev n_i_DiskOk : Nat := 70
abbrev n_sl_Equal_int : Nat := 71
abbrev n_i_PlanFiles : Nat := 72
abbrev n_l_luPkg : Nat := 73
abbrev n_l_szIntS : Nat := 74
abbrev n_s_l21Step : Nat := 75
abbrev n_s_l21Do : Nat := 76
abbrev n_i_Step_ok : Nat := 77
abbrev n_i_Disk_copied : Nat := 78
abbrev n_i_Disk_do : Nat := 79
abbrev n_l_heldIntS : Nat := 80
abbrev n_s_l6Open : Nat := 81
abbrev n_s_l71Disk : Nat := 82
abbrev n_s_l6Rd_pick : Nat := 83
abbrev n_s_l71Plan : Nat := 84
abbrev n_s_l71Pkgs : Nat := 85
abbrev n_i_PlanOk : Nat := 86
abbrev n_i_copies : Nat := 87
abbrev n_i_stepsFor : Nat := 88
abbrev n_s_DiskTrue : Nat := 89
abbrev n_s_l22Steps : Nat := 90
abbrev n_s_StoreOk : Nat := 91
abbrev n_s_l13One : Nat := 92
abbrev n_s_l13Meets : Nat := 93
abbrev n_s_l13Owner : Nat := 94
abbrev n_sl_ContainsFunc_Step : Nat := 95
abbrev n_i_InstTo_1 : Nat := 96
abbrev n_i_Disk_tear : Nat := 97
abbrev n_sl_Repeat_int : Nat := 98
abbrev n_l_szPkg : Nat := 99
abbrev n_s_l6In : Nat := 100
abbrev n_s_l13For : Nat := 101
abbrev n_l_toPkg : Nat := 102
abbrev n_i_StoreOk : Nat := 103
abbrev n_i_isName : Nat := 104
abbrev n_sl_Contains_int : Nat := 105
abbrev n_i_newer : Nat := 106
abbrev n_i_put : Nat := 107
abbrev n_l_eqPkg : Nat := 108
abbrev n_l_markFileS : Nat := 109
abbrev n_l_markDepS : Nat := 110
abbrev n_l_heldFileS : Nat := 111
abbrev n_l_heldDepS : Nat := 112
abbrev n_sl_Clip_Step : Nat := 113
abbrev n_s_RootOk : Nat := 114
abbrev n_s_KeysOk : Nat := 115
abbrev n_s_l2Both : Nat := 116
abbrev n_s_TrustNew : Nat := 117
abbrev n_s_l11RootCopy : Nat := 118
abbrev n_s_DiskNew : Nat := 119
abbrev n_i_RootOk : Nat := 120
abbrev n_i_KeysOk : Nat := 121
abbrev n_i_Root_safe : Nat := 122
abbrev n_i_TrustNew : Nat := 123
abbrev n_i_Root_copied : Nat := 124
abbrev n_sl_Clone_int : Nat := 125
abbrev n_l_eqSigRootS : Nat := 126
abbrev n_l_eqSigIndexS : Nat := 127
abbrev n_l_eqTrust : Nat := 128
abbrev n_l_markSigRootS : Nat := 129
abbrev n_l_markSigIndexS : Nat := 130
abbrev n_l_markTrust : Nat := 131
abbrev n_l_heldSigRootS : Nat := 132
abbrev n_l_heldSigIndexS : Nat := 133
abbrev n_l_heldTrust : Nat := 134
abbrev n_s_l21Tear : Nat := 135
abbrev n_s_l12Copy : Nat := 136
abbrev n_i_DiskOk_1 : Nat := 137
abbrev n_i_in : Nat := 138
abbrev n_sl_ContainsFunc_int : Nat := 139
abbrev n_s_l71Off : Nat := 140
abbrev n_s_l71Pkg : Nat := 141
abbrev n_s_l12Find : Nat := 142
abbrev n_s_l12With : Nat := 143
abbrev n_sl_ContainsFunc_Dep : Nat := 144
abbrev n_i_PlanOk_1 : Nat := 145
abbrev n_i_bears : Nat := 146
abbrev n_i_Pkg_copied : Nat := 147
abbrev n_s_l21Same : Nat := 148
abbrev n_s_l13Files : Nat := 149
abbrev n_s_l3Pkgs : Nat := 150
abbrev n_s_l12Newest : Nat := 151
abbrev n_sl_IndexFunc_Step : Nat := 152
abbrev n_math_bits_Mul : Nat := 153
abbrev n_l_szFileS : Nat := 154
abbrev n_l_szDepS : Nat := 155
abbrev n_s_l13Is : Nat := 156
abbrev n_s_l13Pick : Nat := 157
abbrev n_l_toFileS : Nat := 158
abbrev n_l_toDepS : Nat := 159
abbrev n_i_PkgOk : Nat := 160
abbrev n_i_Pkg_compare : Nat := 161
abbrev n_sl_Index_int : Nat := 162
abbrev n_i_newest : Nat := 163
abbrev n_sl_BinarySearchFunc_Pkg : Nat := 164
abbrev n_sl_Insert_Pkg : Nat := 165
abbrev n_l_eqFileS : Nat := 166
abbrev n_l_eqDepS : Nat := 167
abbrev n_i_KeysBoth : Nat := 168
abbrev n_l_eqSigRoot : Nat := 169
abbrev n_l_eqSigIndex : Nat := 170
abbrev n_l_eqIndex : Nat := 171
abbrev n_l_markMetaS : Nat := 172
abbrev n_l_markIndex : Nat := 173
abbrev n_l_heldMetaS : Nat := 174
abbrev n_l_heldRoot : Nat := 175
abbrev n_l_heldIndex : Nat := 176
abbrev n_s_l12PkgCopy : Nat := 177
abbrev n_sl_IndexFunc_int : Nat := 178
abbrev n_s_l71Any : Nat := 179
abbrev n_s_l3Less : Nat := 180
abbrev n_sl_IndexFunc_Dep : Nat := 181
abbrev n_sl_ContainsFunc_Pkg : Nat := 182
abbrev n_i_bears_1 : Nat := 183
abbrev n_sl_Clone_File : Nat := 184
abbrev n_sl_Clone_Dep : Nat := 185
abbrev n_s_PkgOk : Nat := 186
abbrev n_math_bits_Mul32 : Nat := 187
abbrev n_math_bits_Mul64 : Nat := 188
abbrev n_l_toFile : Nat := 189
abbrev n_l_toDep : Nat := 190
abbrev n_i_isVer : Nat := 191
abbrev n_cmp_Or_int : Nat := 192
abbrev n_cmp_Compare_int : Nat := 193
abbrev n_sl_overlaps_Pkg : Nat := 194
abbrev n_sl_rotateRight_Pkg : Nat := 195
abbrev n_l_eqFile : Nat := 196
abbrev n_l_eqDep : Nat := 197
abbrev n_l_eqMetaS : Nat := 198
abbrev n_sl_IndexFunc_Pkg : Nat := 199
abbrev n_s_l1Files : Nat := 200
abbrev n_s_l1Deps : Nat := 201
abbrev n_cmp_isNaN_int : Nat := 202
abbrev n_sl_rotateLeft_Pkg : Nat := 203
abbrev n_l_eqMeta : Nat := 204
abbrev n_sl_Reverse_Pkg : Nat := 205
abbrev n_runtime_boundsError_Error : Nat := 206
abbrev n_runtime_boundsError_RuntimeError : Nat := 207
abbrev n_runtime_errorString_Error : Nat := 208
abbrev n_runtime_errorString_RuntimeError : Nat := 209
abbrev n_runtime_plainError_Error : Nat := 210
abbrev n_runtime_plainError_RuntimeError : Nat := 211
abbrev n_runtime_errorAddressString_Error : Nat := 212
abbrev n_runtime_errorAddressString_RuntimeError : Nat := 213
abbrev n_runtime_TypeAssertionError_Error : Nat := 214
abbrev n_runtime_TypeAssertionError_RuntimeError : Nat := 215
abbrev n_runtime_PanicNilError_Error : Nat := 216
abbrev n_runtime_PanicNilError_RuntimeError : Nat := 217
abbrev n_internal_abi_Type_Align : Nat := 218
abbrev n_internal_runtime_maps_unhashableTypeError_Error : Nat := 219
abbrev n_internal_runtime_maps_unhashableTypeError_RuntimeError : Nat := 220
abbrev n_i_Disk_text : Nat := 221
abbrev n_i_Index_copied : Nat := 222
abbrev n_i_Trust_copied : Nat := 223
abbrev n_i_World_indexesOk : Nat := 224
abbrev n_i_SigRoot_copied : Nat := 225
abbrev n_i_SigIndex_copied : Nat := 226
abbrev n_internal_abi_Kind_String : Nat := 227
abbrev s_s_l6Open : Sig := ⟨[.v false [.r]], [.nbox [.r, .s]]⟩
abbrev s_s_l71Pkg : Sig := ⟨[.box false [.r, .s], .v false [.s], .v false [.s]], [.v true [.s, .s, .o false ⟨2, false⟩, .o false ⟨2, false⟩]]⟩
abbrev s_s_l71Any : Sig := ⟨[.box false [.r, .s]], [.v true [.s, .s, .o false ⟨2, false⟩, .o false ⟨2, false⟩]]⟩
abbrev s_s_l12Newest : Sig := ⟨[.v false [.b], .v false [.s]], [.v true [.s, .s, .r, .r], .v false [.s]]⟩
abbrev s_s_l13Pick : Sig := ⟨[.v false [.b], .v false [.b], .v false [.s]], [.v true [.s, .s, .r, .r], .v false [.s]]⟩
abbrev s_s_l21Do : Sig := ⟨[.v true [.r, .o true ⟨1, false⟩, .s, .r], .v true [.s, .s, .s, .b]], [.v true [.r, .o true ⟨1, false⟩, .s, .r]]⟩
abbrev s_s_l21Tear : Sig := ⟨[.v true [.r, .o true ⟨1, false⟩, .s, .r], .v true [.s, .s, .s, .b]], [.v true [.r, .o true ⟨1, false⟩, .s, .r]]⟩
abbrev s_s_l22To : Sig := ⟨[.v true [.r, .o true ⟨1, false⟩, .s, .r], .v false [.b], .v false [.s], .v false [.s]], [.v true [.r, .o true ⟨1, false⟩, .s, .r]]⟩
abbrev s_s_l21Copy : Sig := ⟨[.v true [.b, .b, .s, .b]], [.v true [.r, .o true ⟨1, false⟩, .s, .r]]⟩
abbrev s_s_l22Steps : Sig := ⟨[.v true [.x, .b, .s, .x], .v false [.b]], [.v false [.r]]⟩
abbrev s_s_l22Mends : Sig := ⟨[.v true [.x, .b, .s, .b]], [.v false [.r]]⟩
abbrev s_s_DiskNew : Sig := ⟨[], [.v true [.r, .o true ⟨1, false⟩, .s, .r]]⟩
abbrev s_s_l13Files : Sig := ⟨[.v false [.b]], [.v false [.o true ⟨1, false⟩]]⟩
abbrev s_s_l12Copy : Sig := ⟨[.v false [.b]], [.v false [.r]]⟩
abbrev s_s_l12PkgCopy : Sig := ⟨[.v true [.s, .s, .b, .b]], [.v true [.s, .s, .o false ⟨2, false⟩, .o false ⟨2, false⟩]]⟩
abbrev s_s_l11RootCopy : Sig := ⟨[.v true [.s, .b, .s]], [.v true [.s, .o false ⟨1, false⟩, .s]]⟩
abbrev s_s_WorldNew : Sig := ⟨[.v true [.s, .b, .s], .v false [.b]], [.v true [.s, .o false ⟨4, false⟩, .o false ⟨4, false⟩, .r, .r, .s, .r, .s, .s, .s, .s, .r, .r, .r, .o true ⟨1, false⟩, .s, .r], .v false [.s]]⟩
abbrev s_s_l13For : Sig := ⟨[.v false [.b], .v false [.b], .v false [.s]], [.v false [.r], .v false [.s]]⟩
abbrev s_s_TrustNew : Sig := ⟨[.v true [.s, .b, .s]], [.v true [.s, .r, .s, .s, .s, .s, .r], .v false [.s]]⟩
abbrev s_s_l71Plan : Sig := ⟨[.box false [.r, .s], .v false [.r]], [.v false [.r]]⟩
abbrev s_i_newer : Sig := ⟨[.v false [.b], .v false [.b], .v false [.s]], [.v true [.s, .s, .b, .b], .v false [.s]]⟩
abbrev s_i_put : Sig := ⟨[.v false [.o false ⟨4, false⟩], .v true [.s, .s, .b, .b]], [.v false [.o false ⟨4, false⟩], .v false [.s]]⟩
abbrev s_i_Disk_do : Sig := ⟨[.box false [.o false ⟨4, false⟩, .o true ⟨1, false⟩, .s, .o false ⟨4, false⟩], .v true [.s, .s, .s, .b]], []⟩
abbrev s_i_Disk_tear : Sig := ⟨[.box false [.o false ⟨4, false⟩, .o true ⟨1, false⟩, .s, .o false ⟨4, false⟩], .v true [.s, .s, .s, .b]], []⟩
abbrev s_i_Disk_copied : Sig := ⟨[.v true [.b, .b, .s, .b]], [.v true [.o false ⟨4, false⟩, .o true ⟨1, false⟩, .s, .o false ⟨4, false⟩]]⟩
abbrev s_i_DiskNew : Sig := ⟨[], [.v true [.o false ⟨4, false⟩, .o true ⟨1, false⟩, .s, .o false ⟨4, false⟩]]⟩
abbrev s_i_DiskDo : Sig := ⟨[.v true [.b, .b, .s, .b], .v true [.s, .s, .s, .b]], [.v true [.o false ⟨4, false⟩, .o true ⟨1, false⟩, .s, .o false ⟨4, false⟩], .v false [.s]]⟩
abbrev s_i_InstTo : Sig := ⟨[.v true [.b, .b, .s, .b], .v false [.b], .v false [.s], .v false [.s]], [.v true [.o false ⟨4, false⟩, .o true ⟨1, false⟩, .s, .o false ⟨4, false⟩], .v false [.s]]⟩
abbrev s_i_InstMend : Sig := ⟨[.v true [.b, .b, .s, .b]], [.v true [.o false ⟨4, false⟩, .o true ⟨1, false⟩, .s, .o false ⟨4, false⟩], .v false [.s]]⟩
abbrev s_i_WorldNew : Sig := ⟨[.v true [.s, .b, .s], .v false [.b]], [.v true [.s, .o false ⟨4, false⟩, .o false ⟨4, false⟩, .o false ⟨4, false⟩, .o false ⟨1, false⟩, .s, .o false ⟨1, false⟩, .s, .s, .s, .s, .o false ⟨3, false⟩, .o false ⟨4, false⟩, .o false ⟨4, false⟩, .o true ⟨1, false⟩, .s, .o false ⟨4, false⟩], .v false [.s]]⟩
abbrev s_i_PlanOk_1 : Sig := ⟨[.v true [.s, .s], .box true [.b]], [.v false [.s]]⟩
abbrev s_i_bears_1 : Sig := ⟨[.v true [.s, .s, .b, .b], .box true [.s, .s]], [.v false [.s]]⟩
abbrev s_sl_BinarySearchFunc_Pkg : Sig := ⟨[.v false [.b], .v true [.s, .s, .b, .b], .clo n_i_Pkg_compare], [.v false [.s], .v false [.s]]⟩
abbrev s_sl_Insert_Pkg : Sig := ⟨[.v false [.o false ⟨4, false⟩], .v false [.s], .v false [.o false ⟨4, false⟩]], [.v false [.o false ⟨4, false⟩]]⟩
abbrev s_sl_Clip_Step : Sig := ⟨[.v false [.o false ⟨4, false⟩]], [.v false [.o false ⟨4, false⟩]]⟩
abbrev s_sl_ContainsFunc_Dep : Sig := ⟨[.v false [.b], .clo n_i_PlanOk_1], [.v false [.s]]⟩
abbrev s_sl_IndexFunc_Dep : Sig := ⟨[.v false [.b], .clo n_i_PlanOk_1], [.v false [.s]]⟩
abbrev s_sl_ContainsFunc_Pkg : Sig := ⟨[.v false [.b], .clo n_i_bears_1], [.v false [.s]]⟩
abbrev s_sl_IndexFunc_Pkg : Sig := ⟨[.v false [.b], .clo n_i_bears_1], [.v false [.s]]⟩
abbrev s_sl_ContainsFunc_int : Sig := ⟨[.v false [.b], .clo n_i_DiskOk_1], [.v false [.s]]⟩
abbrev s_sl_IndexFunc_int : Sig := ⟨[.v false [.b], .clo n_i_DiskOk_1], [.v false [.s]]⟩
abbrev s_sl_ContainsFunc_Step : Sig := ⟨[.v false [.b], .clo n_i_InstTo_1], [.v false [.s]]⟩
abbrev s_sl_IndexFunc_Step : Sig := ⟨[.v false [.b], .clo n_i_InstTo_1], [.v false [.s]]⟩
abbrev s_s_l71Off : Sig := ⟨[.box false [.r, .s]], [.v false [.o true ⟨4, false⟩]]⟩
abbrev s_s_l71Pkgs : Sig := ⟨[.box false [.r, .s]], [.v false [.o true ⟨4, false⟩]]⟩
abbrev s_s_l12With : Sig := ⟨[.v false [.r], .v true [.s, .s, .r, .r]], [.v false [.o true ⟨4, false⟩]]⟩
abbrev s_l_FnMendTrue : Sig := ⟨[.v false [.r]], [.v false [.s]]⟩
abbrev s_l_FnStepsNone : Sig := ⟨[.v false [.r]], [.v false [.s]]⟩
abbrev s_l_FnInstTwo : Sig := ⟨[.v false [.r], .v false [.r]], [.v false [.s]]⟩
abbrev s_l_FnCutMend : Sig := ⟨[.v false [.r], .v false [.r]], [.v false [.s]]⟩
abbrev s_s_l71Disk : Sig := ⟨[.box false [.r, .s]], [.v true [.r, .r, .s, .r], .v false [.r]]⟩
abbrev s_s_DrawDiskOk : Sig := ⟨[.v false [.r]], [.v true [.r, .r, .s, .r]]⟩
abbrev s_s_DrawInstMend : Sig := ⟨[.v false [.r]], [.v true [.r, .r, .s, .r]]⟩
abbrev s_s_DrawInstSteps : Sig := ⟨[.v false [.r]], [.v true [.r, .r, .s, .r], .v false [.r]]⟩
abbrev s_main_main : Sig := ⟨[], []⟩
abbrev s_gosem_cut : Sig := ⟨[], []⟩
abbrev s_gosem_cut_init : Sig := ⟨[], []⟩
abbrev s_l_FnExactDiskDo : Sig := ⟨[.v true [.b, .b, .s, .b], .v true [.s, .s, .s, .b]], [.v false [.s]]⟩
abbrev s_l_FnExactPlanFor : Sig := ⟨[.v false [.b], .v false [.b], .v false [.s]], [.v false [.s]]⟩
abbrev s_l_FnExactInstMends : Sig := ⟨[.v true [.b, .b, .s, .b]], [.v false [.s]]⟩
abbrev s_l_FnExactWorldNew : Sig := ⟨[.v true [.s, .b, .s], .v false [.b]], [.v false [.s]]⟩
abbrev s_l_FnExactInstSteps : Sig := ⟨[.v true [.b, .b, .s, .b], .v false [.b]], [.v false [.s]]⟩
abbrev s_l_FnExactInstTo : Sig := ⟨[.v true [.b, .b, .s, .b], .v false [.b], .v false [.s], .v false [.s]], [.v false [.s]]⟩
abbrev s_l_FnExactInstMend : Sig := ⟨[.v true [.b, .b, .s, .b]], [.v false [.s]]⟩
abbrev s_s_InstMend : Sig := ⟨[.v true [.r, .r, .s, .r]], [.v true [.r, .r, .s, .r], .v false [.s]]⟩
abbrev s_l_luDisk : Sig := ⟨[.v true [.b, .b, .s, .b], .v true [.b, .b, .s, .b]], [.v false [.s]]⟩
abbrev s_i_DiskTrue : Sig := ⟨[.v true [.b, .b, .s, .b]], [.v false [.s]]⟩
abbrev s_l_luPkgs : Sig := ⟨[.v false [.b], .v false [.b]], [.v false [.s]]⟩
abbrev s_l_szDisk : Sig := ⟨[.v true [.b, .b, .s, .b], .v false [.s]], [.v false [.s]]⟩
abbrev s_l_szStep : Sig := ⟨[.v true [.s, .s, .s, .b], .v false [.s]], [.v false [.s]]⟩
abbrev s_s_DiskDo : Sig := ⟨[.v true [.r, .r, .s, .r], .v true [.s, .s, .s, .r]], [.v true [.r, .r, .s, .r], .v false [.s]]⟩
abbrev s_l_toDisk : Sig := ⟨[.v true [.b, .b, .s, .b]], [.v true [.o true ⟨4, false⟩, .o true ⟨1, false⟩, .s, .o true ⟨4, false⟩]]⟩
abbrev s_l_toStep : Sig := ⟨[.v true [.s, .s, .s, .b]], [.v true [.s, .s, .s, .o true ⟨4, false⟩]]⟩
abbrev s_l_eqDisk : Sig := ⟨[.v true [.b, .b, .s, .b], .v true [.b, .b, .s, .b]], [.v false [.s]]⟩
abbrev s_l_eqStep : Sig := ⟨[.v true [.s, .s, .s, .b], .v true [.s, .s, .s, .b]], [.v false [.s]]⟩
abbrev s_l_markDisk : Sig := ⟨[.v true [.b, .b, .s, .b], .v false [.s]], [.v false [.s]]⟩
abbrev s_l_markStep : Sig := ⟨[.v true [.s, .s, .s, .b], .v false [.s]], [.v false [.s]]⟩
abbrev s_l_heldDisk : Sig := ⟨[.v true [.b, .b, .s, .b], .v false [.s]], [.v false [.s]]⟩
abbrev s_i_InstSteps : Sig := ⟨[.v true [.b, .b, .s, .b], .v false [.b]], [.v false [.o false ⟨4, false⟩]]⟩
abbrev s_s_InstSteps : Sig := ⟨[.v true [.r, .r, .s, .r], .v false [.r]], [.v false [.r]]⟩
abbrev s_s_PlanOk : Sig := ⟨[.v false [.b]], [.v false [.s]]⟩
abbrev s_l_szPkgS : Sig := ⟨[.v false [.b], .v false [.s]], [.v false [.s]]⟩
abbrev s_s_PlanFor : Sig := ⟨[.v false [.r], .v false [.r], .v false [.s]], [.v false [.r], .v false [.s]]⟩
abbrev s_l_toPkgS : Sig := ⟨[.v false [.b]], [.v false [.o true ⟨4, false⟩]]⟩
abbrev s_i_PlanFor : Sig := ⟨[.v false [.b], .v false [.b], .v false [.s]], [.v false [.o false ⟨4, false⟩], .v false [.s]]⟩
abbrev s_l_eqPkgS : Sig := ⟨[.v false [.b], .v false [.b]], [.v false [.s]]⟩
abbrev s_l_markPkgS : Sig := ⟨[.v false [.b], .v false [.s]], [.v false [.s]]⟩
abbrev s_l_heldPkgS : Sig := ⟨[.v false [.b], .v false [.s]], [.v false [.s]]⟩
abbrev s_s_InstMends : Sig := ⟨[.v true [.r, .r, .s, .r]], [.v false [.r]]⟩
abbrev s_i_InstMends : Sig := ⟨[.v true [.b, .b, .s, .b]], [.v false [.o false ⟨4, false⟩]]⟩
abbrev s_l_eqStepS : Sig := ⟨[.v false [.b], .v false [.b]], [.v false [.s]]⟩
abbrev s_l_markStepS : Sig := ⟨[.v false [.b], .v false [.s]], [.v false [.s]]⟩
abbrev s_l_heldStepS : Sig := ⟨[.v false [.b], .v false [.s]], [.v false [.s]]⟩
abbrev s_l_szRoot : Sig := ⟨[.v true [.s, .b, .s], .v false [.s]], [.v false [.s]]⟩
abbrev s_l_toRoot : Sig := ⟨[.v true [.s, .b, .s]], [.v true [.s, .o true ⟨1, false⟩, .s]]⟩
abbrev s_l_toIntS : Sig := ⟨[.v false [.b]], [.v false [.o true ⟨1, false⟩]]⟩
abbrev s_l_eqWorld : Sig := ⟨[.v true [.s, .b, .b, .b, .b, .s, .b, .s, .s, .s, .s, .b, .b, .b, .b, .s, .b], .v true [.s, .b, .b, .b, .b, .s, .b, .s, .s, .s, .s, .b, .b, .b, .b, .s, .b]], [.v false [.s]]⟩
abbrev s_l_eqRoot : Sig := ⟨[.v true [.s, .b, .s], .v true [.s, .b, .s]], [.v false [.s]]⟩
abbrev s_l_eqIntS : Sig := ⟨[.v false [.b], .v false [.b]], [.v false [.s]]⟩
abbrev s_l_markRoot : Sig := ⟨[.v true [.s, .b, .s], .v false [.s]], [.v false [.s]]⟩
abbrev s_l_markIntS : Sig := ⟨[.v false [.b], .v false [.s]], [.v false [.s]]⟩
abbrev s_l_markWorld : Sig := ⟨[.v true [.s, .b, .b, .b, .b, .s, .b, .s, .s, .s, .s, .b, .b, .b, .b, .s, .b], .v false [.s]], [.v false [.s]]⟩
abbrev s_l_heldWorld : Sig := ⟨[.v true [.s, .b, .b, .b, .b, .s, .b, .s, .s, .s, .s, .b, .b, .b, .b, .s, .b], .v false [.s]], [.v false [.s]]⟩
abbrev s_l_szStepS : Sig := ⟨[.v false [.b], .v false [.s]], [.v false [.s]]⟩
abbrev s_s_InstTo : Sig := ⟨[.v true [.r, .r, .s, .r], .v false [.r], .v false [.s], .v false [.s]], [.v true [.r, .r, .s, .r], .v false [.s]]⟩
abbrev s_l_toStepS : Sig := ⟨[.v false [.b]], [.v false [.o true ⟨4, false⟩]]⟩
abbrev s_s_DiskOk : Sig := ⟨[.v true [.b, .b, .s, .b]], [.v false [.s]]⟩
abbrev s_l_luInts : Sig := ⟨[.v false [.b], .v false [.b]], [.v false [.s]]⟩
abbrev s_i_DiskOk : Sig := ⟨[.v true [.b, .b, .s, .b]], [.v false [.s]]⟩
abbrev s_sl_Equal_int : Sig := ⟨[.v false [.b], .v false [.b]], [.v false [.s]]⟩
abbrev s_i_PlanFiles : Sig := ⟨[.v false [.b]], [.v false [.o false ⟨1, false⟩]]⟩
abbrev s_l_luPkg : Sig := ⟨[.v true [.s, .s, .b, .b], .v true [.s, .s, .b, .b]], [.v false [.s]]⟩
abbrev s_l_szIntS : Sig := ⟨[.v false [.b], .v false [.s]], [.v false [.s]]⟩
abbrev s_s_l21Step : Sig := ⟨[.v true [.s, .s, .s, .b]], [.v false [.s]]⟩
abbrev s_i_Step_ok : Sig := ⟨[.v true [.s, .s, .s, .b]], [.v false [.s]]⟩
abbrev s_l_heldIntS : Sig := ⟨[.v false [.b], .v false [.s]], [.v false [.s]]⟩
abbrev s_s_l6Rd_pick : Sig := ⟨[.box false [.r, .s], .v false [.s]], [.v false [.s]]⟩
abbrev s_i_PlanOk : Sig := ⟨[.v false [.b]], [.v false [.s]]⟩
abbrev s_i_copies : Sig := ⟨[.v false [.b]], [.v false [.o false ⟨4, false⟩]]⟩
abbrev s_i_stepsFor : Sig := ⟨[.v true [.b, .b, .s, .b], .v false [.b]], [.v false [.o false ⟨4, false⟩]]⟩
abbrev s_s_DiskTrue : Sig := ⟨[.v true [.b, .b, .s, .b]], [.v false [.s]]⟩
abbrev s_s_StoreOk : Sig := ⟨[.v false [.b]], [.v false [.s]]⟩
abbrev s_s_l13One : Sig := ⟨[.v false [.b]], [.v false [.s]]⟩
abbrev s_s_l13Meets : Sig := ⟨[.v false [.b], .v true [.s, .s]], [.v false [.s]]⟩
abbrev s_s_l13Owner : Sig := ⟨[.v false [.b], .v false [.s], .v false [.s]], [.v false [.s]]⟩
abbrev s_i_InstTo_1 : Sig := ⟨[.v true [.s, .s, .s, .b]], [.v false [.s]]⟩
abbrev s_sl_Repeat_int : Sig := ⟨[.v false [.b], .v false [.s]], [.v false [.o true ⟨1, false⟩]]⟩
abbrev s_l_szPkg : Sig := ⟨[.v true [.s, .s, .b, .b], .v false [.s]], [.v false [.s]]⟩
abbrev s_s_l6In : Sig := ⟨[.v false [.s], .v false [.s], .v false [.s]], [.v false [.s]]⟩
abbrev s_l_toPkg : Sig := ⟨[.v true [.s, .s, .b, .b]], [.v true [.s, .s, .o true ⟨2, false⟩, .o true ⟨2, false⟩]]⟩
abbrev s_i_StoreOk : Sig := ⟨[.v false [.b]], [.v false [.s]]⟩
abbrev s_i_isName : Sig := ⟨[.v false [.s]], [.v false [.s]]⟩
abbrev s_sl_Contains_int : Sig := ⟨[.v false [.b], .v false [.s]], [.v false [.s]]⟩
abbrev s_l_eqPkg : Sig := ⟨[.v true [.s, .s, .b, .b], .v true [.s, .s, .b, .b]], [.v false [.s]]⟩
abbrev s_l_markFileS : Sig := ⟨[.v false [.b], .v false [.s]], [.v false [.s]]⟩
abbrev s_l_markDepS : Sig := ⟨[.v false [.b], .v false [.s]], [.v false [.s]]⟩
abbrev s_l_heldFileS : Sig := ⟨[.v false [.b], .v false [.s]], [.v false [.s]]⟩
abbrev s_l_heldDepS : Sig := ⟨[.v false [.b], .v false [.s]], [.v false [.s]]⟩
abbrev s_s_RootOk : Sig := ⟨[.v true [.s, .b, .s]], [.v false [.s]]⟩
abbrev s_s_KeysOk : Sig := ⟨[.v false [.b]], [.v false [.s]]⟩
abbrev s_s_l2Both : Sig := ⟨[.v false [.b], .v false [.b]], [.v false [.s]]⟩
abbrev s_i_RootOk : Sig := ⟨[.v true [.s, .b, .s]], [.v false [.s]]⟩
abbrev s_i_KeysOk : Sig := ⟨[.v false [.b]], [.v false [.s]]⟩
abbrev s_i_Root_safe : Sig := ⟨[.v true [.s, .b, .s], .v false [.b]], [.v false [.s]]⟩
abbrev s_i_TrustNew : Sig := ⟨[.v true [.s, .b, .s]], [.v true [.s, .o false ⟨1, false⟩, .s, .s, .s, .s, .o false ⟨3, false⟩], .v false [.s]]⟩
abbrev s_i_Root_copied : Sig := ⟨[.v true [.s, .b, .s]], [.v true [.s, .o false ⟨1, false⟩, .s]]⟩
abbrev s_sl_Clone_int : Sig := ⟨[.v false [.b]], [.v false [.o true ⟨1, false⟩]]⟩
abbrev s_l_eqSigRootS : Sig := ⟨[.v false [.b], .v false [.b]], [.v false [.s]]⟩
abbrev s_l_eqSigIndexS : Sig := ⟨[.v false [.b], .v false [.b]], [.v false [.s]]⟩
abbrev s_l_eqTrust : Sig := ⟨[.v true [.s, .b, .s, .s, .s, .s, .b], .v true [.s, .b, .s, .s, .s, .s, .b]], [.v false [.s]]⟩
abbrev s_l_markSigRootS : Sig := ⟨[.v false [.b], .v false [.s]], [.v false [.s]]⟩
abbrev s_l_markSigIndexS : Sig := ⟨[.v false [.b], .v false [.s]], [.v false [.s]]⟩
abbrev s_l_markTrust : Sig := ⟨[.v true [.s, .b, .s, .s, .s, .s, .b], .v false [.s]], [.v false [.s]]⟩
abbrev s_l_heldSigRootS : Sig := ⟨[.v false [.b], .v false [.s]], [.v false [.s]]⟩
abbrev s_l_heldSigIndexS : Sig := ⟨[.v false [.b], .v false [.s]], [.v false [.s]]⟩
abbrev s_l_heldTrust : Sig := ⟨[.v true [.s, .b, .s, .s, .s, .s, .b], .v false [.s]], [.v false [.s]]⟩
abbrev s_i_DiskOk_1 : Sig := ⟨[.v false [.s]], [.v false [.s]]⟩
abbrev s_i_in : Sig := ⟨[.v false [.s], .v false [.s], .v false [.s]], [.v false [.s]]⟩
abbrev s_s_l12Find : Sig := ⟨[.v false [.b], .v false [.s], .v false [.s]], [.v false [.s]]⟩
abbrev s_i_bears : Sig := ⟨[.v false [.b], .v true [.s, .s]], [.v false [.s]]⟩
abbrev s_i_Pkg_copied : Sig := ⟨[.v true [.s, .s, .b, .b]], [.v true [.s, .s, .o false ⟨2, false⟩, .o false ⟨2, false⟩]]⟩
abbrev s_s_l21Same : Sig := ⟨[.v false [.b], .v false [.b]], [.v false [.s]]⟩
abbrev s_s_l3Pkgs : Sig := ⟨[.v false [.b]], [.v false [.s]]⟩
abbrev s_math_bits_Mul : Sig := ⟨[.v false [.s], .v false [.s]], [.v false [.s], .v false [.s]]⟩
abbrev s_l_szFileS : Sig := ⟨[.v false [.b], .v false [.s]], [.v false [.s]]⟩
abbrev s_l_szDepS : Sig := ⟨[.v false [.b], .v false [.s]], [.v false [.s]]⟩
abbrev s_s_l13Is : Sig := ⟨[.v false [.b], .v false [.s]], [.v false [.s]]⟩
abbrev s_l_toFileS : Sig := ⟨[.v false [.b]], [.v false [.o true ⟨2, false⟩]]⟩
abbrev s_l_toDepS : Sig := ⟨[.v false [.b]], [.v false [.o true ⟨2, false⟩]]⟩
abbrev s_i_PkgOk : Sig := ⟨[.v true [.s, .s, .b, .b]], [.v false [.s]]⟩
abbrev s_i_Pkg_compare : Sig := ⟨[.v true [.s, .s, .b, .b], .v true [.s, .s, .b, .b]], [.v false [.s]]⟩
abbrev s_sl_Index_int : Sig := ⟨[.v false [.b], .v false [.s]], [.v false [.s]]⟩
abbrev s_i_newest : Sig := ⟨[.v false [.b], .v false [.s]], [.v false [.s]]⟩
abbrev s_l_eqFileS : Sig := ⟨[.v false [.b], .v false [.b]], [.v false [.s]]⟩
abbrev s_l_eqDepS : Sig := ⟨[.v false [.b], .v false [.b]], [.v false [.s]]⟩
abbrev s_i_KeysBoth : Sig := ⟨[.v false [.b], .v false [.b]], [.v false [.s]]⟩
abbrev s_l_eqSigRoot : Sig := ⟨[.v true [.s, .b, .s, .b], .v true [.s, .b, .s, .b]], [.v false [.s]]⟩
abbrev s_l_eqSigIndex : Sig := ⟨[.v true [.s, .s, .b, .b], .v true [.s, .s, .b, .b]], [.v false [.s]]⟩
abbrev s_l_eqIndex : Sig := ⟨[.v true [.s, .s, .b], .v true [.s, .s, .b]], [.v false [.s]]⟩
abbrev s_l_markMetaS : Sig := ⟨[.v false [.b], .v false [.s]], [.v false [.s]]⟩
abbrev s_l_markIndex : Sig := ⟨[.v true [.s, .s, .b], .v false [.s]], [.v false [.s]]⟩
abbrev s_l_heldMetaS : Sig := ⟨[.v false [.b], .v false [.s]], [.v false [.s]]⟩
abbrev s_l_heldRoot : Sig := ⟨[.v true [.s, .b, .s], .v false [.s]], [.v false [.s]]⟩
abbrev s_l_heldIndex : Sig := ⟨[.v true [.s, .s, .b], .v false [.s]], [.v false [.s]]⟩
abbrev s_s_l3Less : Sig := ⟨[.v false [.s], .v false [.s], .v false [.s], .v false [.s]], [.v false [.s]]⟩
abbrev s_sl_Clone_File : Sig := ⟨[.v false [.b]], [.v false [.o true ⟨2, false⟩]]⟩
abbrev s_sl_Clone_Dep : Sig := ⟨[.v false [.b]], [.v false [.o true ⟨2, false⟩]]⟩
abbrev s_s_PkgOk : Sig := ⟨[.v true [.s, .s, .b, .b]], [.v false [.s]]⟩
abbrev s_math_bits_Mul32 : Sig := ⟨[.v false [.s], .v false [.s]], [.v false [.s], .v false [.s]]⟩
abbrev s_math_bits_Mul64 : Sig := ⟨[.v false [.s], .v false [.s]], [.v false [.s], .v false [.s]]⟩
abbrev s_l_toFile : Sig := ⟨[.v true [.s, .s]], [.v true [.s, .s]]⟩
abbrev s_l_toDep : Sig := ⟨[.v true [.s, .s]], [.v true [.s, .s]]⟩
abbrev s_i_isVer : Sig := ⟨[.v false [.s]], [.v false [.s]]⟩
abbrev s_cmp_Or_int : Sig := ⟨[.v false [.b]], [.v false [.s]]⟩
abbrev s_cmp_Compare_int : Sig := ⟨[.v false [.s], .v false [.s]], [.v false [.s]]⟩
abbrev s_sl_overlaps_Pkg : Sig := ⟨[.v false [.b], .v false [.b]], [.v false [.s]]⟩
abbrev s_sl_rotateRight_Pkg : Sig := ⟨[.v false [.b], .v false [.s]], []⟩
abbrev s_l_eqFile : Sig := ⟨[.v true [.s, .s], .v true [.s, .s]], [.v false [.s]]⟩
abbrev s_l_eqDep : Sig := ⟨[.v true [.s, .s], .v true [.s, .s]], [.v false [.s]]⟩
abbrev s_l_eqMetaS : Sig := ⟨[.v false [.b], .v false [.b]], [.v false [.s]]⟩
abbrev s_s_l1Files : Sig := ⟨[.v false [.b]], [.v false [.s]]⟩
abbrev s_s_l1Deps : Sig := ⟨[.v false [.s], .v false [.b]], [.v false [.s]]⟩
abbrev s_cmp_isNaN_int : Sig := ⟨[.v false [.s]], [.v false [.s]]⟩
abbrev s_sl_rotateLeft_Pkg : Sig := ⟨[.v false [.b], .v false [.s]], []⟩
abbrev s_l_eqMeta : Sig := ⟨[.v true [.s, .s, .s], .v true [.s, .s, .s]], [.v false [.s]]⟩
abbrev s_sl_Reverse_Pkg : Sig := ⟨[.v false [.b]], []⟩
abbrev s_runtime_boundsError_Error : Sig := ⟨[.v true [.s, .s, .s, .s]], [.v false [.s]]⟩
abbrev s_runtime_boundsError_RuntimeError : Sig := ⟨[.v true [.s, .s, .s, .s]], []⟩
abbrev s_runtime_errorString_Error : Sig := ⟨[.v false [.s]], [.v false [.s]]⟩
abbrev s_runtime_errorString_RuntimeError : Sig := ⟨[.v false [.s]], []⟩
abbrev s_runtime_plainError_Error : Sig := ⟨[.v false [.s]], [.v false [.s]]⟩
abbrev s_runtime_plainError_RuntimeError : Sig := ⟨[.v false [.s]], []⟩
abbrev s_runtime_errorAddressString_Error : Sig := ⟨[.v true [.s, .s]], [.v false [.s]]⟩
abbrev s_runtime_errorAddressString_RuntimeError : Sig := ⟨[.v true [.s, .s]], []⟩
abbrev s_runtime_TypeAssertionError_Error : Sig := ⟨[.box false [.x, .x, .x, .s]], [.v false [.s]]⟩
abbrev s_runtime_TypeAssertionError_RuntimeError : Sig := ⟨[.box false [.x, .x, .x, .s]], []⟩
abbrev s_runtime_PanicNilError_Error : Sig := ⟨[.box false []], [.v false [.s]]⟩
abbrev s_runtime_PanicNilError_RuntimeError : Sig := ⟨[.box false []], []⟩
abbrev s_internal_abi_Type_Align : Sig := ⟨[.box false [.s, .s, .s, .s, .s, .s, .s, .x, .x, .s, .s]], [.v false [.s]]⟩
abbrev s_internal_runtime_maps_unhashableTypeError_Error : Sig := ⟨[.v true [.x]], [.v false [.s]]⟩
abbrev s_internal_runtime_maps_unhashableTypeError_RuntimeError : Sig := ⟨[.v true [.x]], []⟩
abbrev s_i_Disk_text : Sig := ⟨[.v true [.b, .b, .s, .b]], [.v false [.s]]⟩
abbrev s_i_Index_copied : Sig := ⟨[.v true [.s, .s, .b]], [.v true [.s, .s, .o false ⟨3, false⟩]]⟩
abbrev s_i_Trust_copied : Sig := ⟨[.v true [.s, .b, .s, .s, .s, .s, .b]], [.v true [.s, .o false ⟨1, false⟩, .s, .s, .s, .s, .o false ⟨3, false⟩]]⟩
abbrev s_i_World_indexesOk : Sig := ⟨[.v true [.s, .b, .b, .b, .b, .s, .b, .s, .s, .s, .s, .b, .b, .b, .b, .s, .b]], [.v false [.s]]⟩
abbrev s_i_SigRoot_copied : Sig := ⟨[.v true [.s, .b, .s, .b]], [.v true [.s, .o false ⟨1, false⟩, .s, .o false ⟨1, false⟩]]⟩
abbrev s_i_SigIndex_copied : Sig := ⟨[.v true [.s, .s, .b, .b]], [.v true [.s, .s, .o false ⟨3, false⟩, .o false ⟨1, false⟩]]⟩
abbrev s_internal_abi_Kind_String : Sig := ⟨[.v false [.s]], [.v false [.s]]⟩
def sigs : Tr (List Sig) := .n 114 [s_s_RootOk] (.n 57 [s_l_markRoot] (.n 28 [s_l_markDisk] (.n 14 [s_s_DrawInstMend] (.n 7 [s_l_FnExactPlanFor] (.n 3 [s_l_FnMendTrue] (.n 1 [s_gosem_cut] (.n 0 [s_main_main] (.e) (.e)) (.n 2 [s_gosem_cut_init] (.e) (.e))) (.n 5 [s_l_FnInstTwo] (.n 4 [s_l_FnExactDiskDo] (.e) (.e)) (.n 6 [s_l_FnStepsNone] (.e) (.e)))) (.n 11 [s_l_FnExactInstSteps] (.n 9 [s_l_FnExactInstMends] (.n 8 [s_l_FnCutMend] (.e) (.e)) (.n 10 [s_l_FnExactWorldNew] (.e) (.e))) (.n 13 [s_l_FnExactInstMend] (.n 12 [s_l_FnExactInstTo] (.e) (.e)) (.e)))) (.n 21 [s_l_szStep] (.n 18 [s_i_DiskTrue] (.n 16 [s_i_InstMend] (.n 15 [s_s_InstMend] (.e) (.e)) (.n 17 [s_l_luDisk] (.e) (.e))) (.n 20 [s_l_szDisk] (.n 19 [s_l_luPkgs] (.e) (.e)) (.e))) (.n 25 [s_i_DiskDo] (.n 23 [s_l_toDisk] (.n 22 [s_s_DiskDo] (.e) (.e)) (.n 24 [s_l_toStep] (.e) (.e))) (.n 27 [s_l_eqStep] (.n 26 [s_l_eqDisk] (.e) (.e)) (.e))))) (.n 43 [s_l_heldPkgS] (.n 36 [s_i_DiskNew] (.n 32 [s_i_InstSteps] (.n 30 [s_l_heldDisk] (.n 29 [s_l_markStep] (.e) (.e)) (.n 31 [s_s_DrawInstSteps] (.e) (.e))) (.n 34 [s_s_PlanOk] (.n 33 [s_s_InstSteps] (.e) (.e)) (.n 35 [s_i_InstTo] (.e) (.e)))) (.n 40 [s_i_PlanFor] (.n 38 [s_s_PlanFor] (.n 37 [s_l_szPkgS] (.e) (.e)) (.n 39 [s_l_toPkgS] (.e) (.e))) (.n 42 [s_l_markPkgS] (.n 41 [s_l_eqPkgS] (.e) (.e)) (.e)))) (.n 50 [s_s_WorldNew] (.n 47 [s_l_markStepS] (.n 45 [s_i_InstMends] (.n 44 [s_s_InstMends] (.e) (.e)) (.n 46 [s_l_eqStepS] (.e) (.e))) (.n 49 [s_l_szRoot] (.n 48 [s_l_heldStepS] (.e) (.e)) (.e))) (.n 54 [s_l_eqWorld] (.n 52 [s_l_toIntS] (.n 51 [s_l_toRoot] (.e) (.e)) (.n 53 [s_i_WorldNew] (.e) (.e))) (.n 56 [s_l_eqIntS] (.n 55 [s_l_eqRoot] (.e) (.e)) (.e)))))) (.n 86 [s_i_PlanOk] (.n 72 [s_i_PlanFiles] (.n 65 [s_s_DiskOk] (.n 61 [s_l_szStepS] (.n 59 [s_l_markWorld] (.n 58 [s_l_markIntS] (.e) (.e)) (.n 60 [s_l_heldWorld] (.e) (.e))) (.n 63 [s_l_toStepS] (.n 62 [s_s_InstTo] (.e) (.e)) (.n 64 [s_s_DrawDiskOk] (.e) (.e)))) (.n 69 [s_l_luInts] (.n 67 [s_s_l22To] (.n 66 [s_s_l22Mends] (.e) (.e)) (.n 68 [s_s_l21Copy] (.e) (.e))) (.n 71 [s_sl_Equal_int] (.n 70 [s_i_DiskOk] (.e) (.e)) (.e)))) (.n 79 [s_i_Disk_do] (.n 76 [s_s_l21Do] (.n 74 [s_l_szIntS] (.n 73 [s_l_luPkg] (.e) (.e)) (.n 75 [s_s_l21Step] (.e) (.e))) (.n 78 [s_i_Disk_copied] (.n 77 [s_i_Step_ok] (.e) (.e)) (.e))) (.n 83 [s_s_l6Rd_pick] (.n 81 [s_s_l6Open] (.n 80 [s_l_heldIntS] (.e) (.e)) (.n 82 [s_s_l71Disk] (.e) (.e))) (.n 85 [s_s_l71Pkgs] (.n 84 [s_s_l71Plan] (.e) (.e)) (.e))))) (.n 100 [s_s_l6In] (.n 93 [s_s_l13Meets] (.n 90 [s_s_l22Steps] (.n 88 [s_i_stepsFor] (.n 87 [s_i_copies] (.e) (.e)) (.n 89 [s_s_DiskTrue] (.e) (.e))) (.n 92 [s_s_l13One] (.n 91 [s_s_StoreOk] (.e) (.e)) (.e))) (.n 97 [s_i_Disk_tear] (.n 95 [s_sl_ContainsFunc_Step] (.n 94 [s_s_l13Owner] (.e) (.e)) (.n 96 [s_i_InstTo_1] (.e) (.e))) (.n 99 [s_l_szPkg] (.n 98 [s_sl_Repeat_int] (.e) (.e)) (.e)))) (.n 107 [s_i_put] (.n 104 [s_i_isName] (.n 102 [s_l_toPkg] (.n 101 [s_s_l13For] (.e) (.e)) (.n 103 [s_i_StoreOk] (.e) (.e))) (.n 106 [s_i_newer] (.n 105 [s_sl_Contains_int] (.e) (.e)) (.e))) (.n 111 [s_l_heldFileS] (.n 109 [s_l_markFileS] (.n 108 [s_l_eqPkg] (.e) (.e)) (.n 110 [s_l_markDepS] (.e) (.e))) (.n 113 [s_sl_Clip_Step] (.n 112 [s_l_heldDepS] (.e) (.e)) (.e))))))) (.n 171 [s_l_eqIndex] (.n 143 [s_s_l12With] (.n 129 [s_l_markSigRootS] (.n 122 [s_i_Root_safe] (.n 118 [s_s_l11RootCopy] (.n 116 [s_s_l2Both] (.n 115 [s_s_KeysOk] (.e) (.e)) (.n 117 [s_s_TrustNew] (.e) (.e))) (.n 120 [s_i_RootOk] (.n 119 [s_s_DiskNew] (.e) (.e)) (.n 121 [s_i_KeysOk] (.e) (.e)))) (.n 126 [s_l_eqSigRootS] (.n 124 [s_i_Root_copied] (.n 123 [s_i_TrustNew] (.e) (.e)) (.n 125 [s_sl_Clone_int] (.e) (.e))) (.n 128 [s_l_eqTrust] (.n 127 [s_l_eqSigIndexS] (.e) (.e)) (.e)))) (.n 136 [s_s_l12Copy] (.n 133 [s_l_heldSigIndexS] (.n 131 [s_l_markTrust] (.n 130 [s_l_markSigIndexS] (.e) (.e)) (.n 132 [s_l_heldSigRootS] (.e) (.e))) (.n 135 [s_s_l21Tear] (.n 134 [s_l_heldTrust] (.e) (.e)) (.e))) (.n 140 [s_s_l71Off] (.n 138 [s_i_in] (.n 137 [s_i_DiskOk_1] (.e) (.e)) (.n 139 [s_sl_ContainsFunc_int] (.e) (.e))) (.n 142 [s_s_l12Find] (.n 141 [s_s_l71Pkg] (.e) (.e)) (.e))))) (.n 157 [s_s_l13Pick] (.n 150 [s_s_l3Pkgs] (.n 147 [s_i_Pkg_copied] (.n 145 [s_i_PlanOk_1] (.n 144 [s_sl_ContainsFunc_Dep] (.e) (.e)) (.n 146 [s_i_bears] (.e) (.e))) (.n 149 [s_s_l13Files] (.n 148 [s_s_l21Same] (.e) (.e)) (.e))) (.n 154 [s_l_szFileS] (.n 152 [s_sl_IndexFunc_Step] (.n 151 [s_s_l12Newest] (.e) (.e)) (.n 153 [s_math_bits_Mul] (.e) (.e))) (.n 156 [s_s_l13Is] (.n 155 [s_l_szDepS] (.e) (.e)) (.e)))) (.n 164 [s_sl_BinarySearchFunc_Pkg] (.n 161 [s_i_Pkg_compare] (.n 159 [s_l_toDepS] (.n 158 [s_l_toFileS] (.e) (.e)) (.n 160 [s_i_PkgOk] (.e) (.e))) (.n 163 [s_i_newest] (.n 162 [s_sl_Index_int] (.e) (.e)) (.e))) (.n 168 [s_i_KeysBoth] (.n 166 [s_l_eqFileS] (.n 165 [s_sl_Insert_Pkg] (.e) (.e)) (.n 167 [s_l_eqDepS] (.e) (.e))) (.n 170 [s_l_eqSigIndex] (.n 169 [s_l_eqSigRoot] (.e) (.e)) (.e)))))) (.n 200 [s_s_l1Files] (.n 186 [s_s_PkgOk] (.n 179 [s_s_l71Any] (.n 175 [s_l_heldRoot] (.n 173 [s_l_markIndex] (.n 172 [s_l_markMetaS] (.e) (.e)) (.n 174 [s_l_heldMetaS] (.e) (.e))) (.n 177 [s_s_l12PkgCopy] (.n 176 [s_l_heldIndex] (.e) (.e)) (.n 178 [s_sl_IndexFunc_int] (.e) (.e)))) (.n 183 [s_i_bears_1] (.n 181 [s_sl_IndexFunc_Dep] (.n 180 [s_s_l3Less] (.e) (.e)) (.n 182 [s_sl_ContainsFunc_Pkg] (.e) (.e))) (.n 185 [s_sl_Clone_Dep] (.n 184 [s_sl_Clone_File] (.e) (.e)) (.e)))) (.n 193 [s_cmp_Compare_int] (.n 190 [s_l_toDep] (.n 188 [s_math_bits_Mul64] (.n 187 [s_math_bits_Mul32] (.e) (.e)) (.n 189 [s_l_toFile] (.e) (.e))) (.n 192 [s_cmp_Or_int] (.n 191 [s_i_isVer] (.e) (.e)) (.e))) (.n 197 [s_l_eqDep] (.n 195 [s_sl_rotateRight_Pkg] (.n 194 [s_sl_overlaps_Pkg] (.e) (.e)) (.n 196 [s_l_eqFile] (.e) (.e))) (.n 199 [s_sl_IndexFunc_Pkg] (.n 198 [s_l_eqMetaS] (.e) (.e)) (.e))))) (.n 214 [s_runtime_TypeAssertionError_Error] (.n 207 [s_runtime_boundsError_RuntimeError] (.n 204 [s_l_eqMeta] (.n 202 [s_cmp_isNaN_int] (.n 201 [s_s_l1Deps] (.e) (.e)) (.n 203 [s_sl_rotateLeft_Pkg] (.e) (.e))) (.n 206 [s_runtime_boundsError_Error] (.n 205 [s_sl_Reverse_Pkg] (.e) (.e)) (.e))) (.n 211 [s_runtime_plainError_RuntimeError] (.n 209 [s_runtime_errorString_RuntimeError] (.n 208 [s_runtime_errorString_Error] (.e) (.e)) (.n 210 [s_runtime_plainError_Error] (.e) (.e))) (.n 213 [s_runtime_errorAddressString_RuntimeError] (.n 212 [s_runtime_errorAddressString_Error] (.e) (.e)) (.e)))) (.n 221 [s_i_Disk_text] (.n 218 [s_internal_abi_Type_Align] (.n 216 [s_runtime_PanicNilError_Error] (.n 215 [s_runtime_TypeAssertionError_RuntimeError] (.e) (.e)) (.n 217 [s_runtime_PanicNilError_RuntimeError] (.e) (.e))) (.n 220 [s_internal_runtime_maps_unhashableTypeError_RuntimeError] (.n 219 [s_internal_runtime_maps_unhashableTypeError_Error] (.e) (.e)) (.e))) (.n 225 [s_i_SigRoot_copied] (.n 223 [s_i_Trust_copied] (.n 222 [s_i_Index_copied] (.e) (.e)) (.n 224 [s_i_World_indexesOk] (.e) (.e))) (.n 227 [s_internal_abi_Kind_String] (.n 226 [s_i_SigIndex_copied] (.e) (.e)) (.e)))))))
def eqL : List Nat := [121, 118]
theorem tt_ok : tt.all (tyChk PP) = true := by kernel_rfl
theorem cfg_ok {C : Cfg} (h : C.tt = tt) : CfgOk PP C := fun t ti ht => tyChk_ok (Tr.get_all (p := tyChk PP) tt_ok (by rw [← h]; exact ht))
theorem eq_chk : eqL.all (fun t => match tt.get t with | some ti => chkEq PP t ti.zero | none => true) = true := by kernel_rfl
theorem eq_ok {C : Cfg} (ht : C.tt = tt) (he : C.eqt = eqL) : EqOk PP C := eqOk_of (by unfold Cfg.ty; rw [ht, he]; exact eq_chk)
theorem mixed : PP.follows .mixedOrders = true := by kernel_rfl

end V
end Go.Proofs.Ytgialjcichiaoaa

