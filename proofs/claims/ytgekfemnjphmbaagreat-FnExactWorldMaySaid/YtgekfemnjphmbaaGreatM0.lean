/-
Part 0 of the proof of the claimed statement (its last part holds the theorem, and says what is proved). Conditions: none.
-/
import Derived.Orders
import Derived.Laws.AppendOwn
import Derived.Laws.CopyRow
import Derived.Laws.Rows
import Derived.Laws.Cells
import Derived.Laws.StructEq
import Derived.Laws.Slices
set_option linter.all false
set_option maxRecDepth 100000
/-
The value language: data, shapes, and the statements into which a function's code is turned. Nothing is proved in this text but small equations.
-/
namespace Go.Proofs.YtgekfemnjphmbaaGreat
namespace V
section

inductive D where
 | int (k:IntKind) (n:Int)
 | bool (b:Bool)
 | str (s:ByteArray)
 | sl (xs:List (List D))
 | fn (g:Nat) (fs:List (Bool×List D)) (cs:List (List D))
 | bad

instance:Inhabited D:=⟨.bad⟩

structure Fz where
 sz:Nat
 u:Bool
 deriving DecidableEq

inductive CS where
 | n | s | r | b
 | o (m:Bool) (f:Fz)
 | al (h i:Nat) (m:Bool) (f:Fz)
 | x
 deriving DecidableEq

inductive Sh where
 | dead
 | v (agg:Bool) (cs:List CS)
 | box (ro:Bool) (cs:List CS)
 | pt (b off:Nat)
 | el (c:CS) (off:Nat)
 | bx (b es off:Nat)
 | clo (g:Nat) (deps:List Nat)
 | tup (ps:List (Bool×List CS))
 | opt (g:Nat) (b:Bool) (sh:Sh)
 /-- what a pointer into an element of an owned list was read for -/
 | ld (p h i:Nat)
 deriving DecidableEq

instance:Inhabited Sh:=⟨.dead⟩

inductive TD where
 | int (k:IntKind) | bool | str
 | slice (e:Nat)
 | struct (fs:List (Nat×Nat))
 | array (n e:Nat)
 | ptr (e:Nat)
 | other

structure TI where
 size:Nat
 bytes:Nat
 zero:List D
 desc:TD

def TI.agg (t:TI):Bool:=match t.desc with | .struct _ | .array _ _=>true | _=>false

inductive Tr (α:Type) where
 | e
 | n (k:Nat) (v:α) (l r:Tr α)

def Tr.get {α:Type}:Tr α→Nat→Option α
 | .e,_=>none
 | .n k v l r,i=>match Nat.beq i k with
  | true=>some v
  | false=>match Nat.ble i k with
   | true=>l.get i
   | false=>r.get i

def Tr.All {α:Type}(p:Nat→α→Prop):Tr α→Prop
 | .e=>True
 | .n k v l r=>p k v∧l.All p∧r.All p

theorem Tr.All.get {α:Type}{p:Nat→α→Prop}:∀ {t:Tr α},t.All p→∀ {i:Nat} {v:α},t.get i=some v→p i v
 | .e,_,i,v,h=>by simp [Tr.get] at h
 | .n k x l r,hp,i,v,h=>by
  simp only [Tr.get] at h
  cases hb:Nat.beq i k with
  | true=>
   rw [hb] at h
   simp only [Option.some.injEq] at h
   subst h
   have hik:i=k:=Nat.eq_of_beq_eq_true hb
   subst hik
   exact hp.1
  | false=>
   rw [hb] at h
   cases hc:Nat.ble i k with
   | true=>rw [hc] at h;exact Tr.All.get hp.2.1 h
   | false=>rw [hc] at h;exact Tr.All.get hp.2.2 h

inductive PSh where
 | v (agg:Bool) (cs:List CS)
 | io (agg:Bool) (cs:List CS)
 | box (ro:Bool) (cs:List CS)
 | clo (g:Nat)
 | nbox (cs:List CS)
 deriving DecidableEq

structure Sig where
 ps:List PSh
 rs:List PSh
 deriving DecidableEq

def ND (ps:List PSh):Nat:=(ps.filter fun p=>match p with | .box true _=>true | _=>false).length

inductive Opd where
 | t (s:Nat)
 | c (d:D)

def oW:D→Bool
 | .int _ _=>true
 | .bool _=>true
 | .str _=>true
 | _=>false

inductive PS where
 | nop
 | mv (d:Nat) (x:Opd)
 | sub (d s off n:Nat)
 | bld (d:Nat) (zero:List D) (parts:List (Nat×Opd))
 | lit (d n:Nat) (zero:List D) (parts:List (Nat×Opd))
 | mk (d:Nat) (zero:List D) (n c:Opd)
 | st (b off:Nat) (x:Opd)
 | bin (d:Nat) (op:BinOp) (x y:Opd)
 | un (d:Nat) (op:UnOp) (x:Opd)
 | beq (d:Nat) (neg:Bool) (x y:Opd)
 | eqs (d:Nat) (neg:Bool) (zs:List D) (x y:Opd)
 | pick (d:Nat) (c a b:Opd)
 | elp (d:Nat) (l i:Opd) (sz:Nat)
 | eld (d s off:Nat) (zs:List D)
 | els (s off h i:Nat) (x:Opd)
 | bxp (d:Nat) (i:Opd) (len:Nat)
 | bxl (d s b es off n:Nat)
 | bxs (s b es off:Nat) (x:Opd)
 | len (d:Nat) (x:Opd)
 | slen (d:Nat) (x:Opd)
 | sidx (d:Nat) (x i:Opd)
 | ssl (d:Nat) (x:Opd) (lo hi:Option Opd)
 | lsl (d sz:Nat) (x:Opd) (lo hi mx:Option Opd)
 | app (d sz:Nat) (sc:Bool) (x y:Opd)
 | cvt (d:Nat) (k:IntKind) (x:Opd)
 | s2b (d:Nat) (x:Opd)
 | b2s (d:Nat) (x:Opd)
 | ext (d s off n:Nat)
 | min (d:Nat) (x y:Opd)
 | i2s (d:Nat) (x:Opd)
 | fn (d g:Nat) (fs:List (Bool×Opd)) (cs:List Nat)
 | callc (d s:Nat) (f:Nat) (sig:Sig) (args:List Opd)
 | call (d:Nat) (f:Nat) (sig:Sig) (args:List Opd) (boxes:List Nat)
 | ioc (d:Nat) (f:Nat) (sig:Sig) (x y:Opd) (h i:Nat) (pl:Option (Nat×Nat))
 | g (s:Nat) (b:Bool) (d:Nat) (p:PS)

inductive PC where
 | skip
 | fail
 | ss (ps:List PS)
 | seq (a b:PC)
 | cond (c:Opd) (a b:PC)
 | block (id:Nat) (a:PC)
 | loop (a:PC)
 | exit (id:Nat)
 | ret (rs:List Nat)

abbrev Env:=Nat→List D

def put (e:Env)(d:Nat)(c:List D):Env:=fun s=>if s=d then c else e s

theorem aI (e:Env)(d:Nat)(c:List D):put e d c d=c:=by simp [put]
theorem cY (e:Env)(d s:Nat)(c:List D)(h:s≠d):put e d c s=e s:=by simp [put,h]

def Opd.get (e:Env):Opd→List D
 | .t s=>e s
 | .c d=>[d]

end
section

abbrev St:=List (Nat×Sh)
abbrev TT:=Tr TI
abbrev Gd:=Option (Nat×Bool)
abbrev Look:=Nat→Sh

structure Cfg where
 tt:TT
 sigs:Tr (List Sig)
 mv:Bool
 bm:List Nat:=[]
 ords:List (Nat×List Nat):=[]
 eqt:List Nat:=[]
 keep:List Bool:=[]
 pin:List Nat:=[]
 fail:List Nat:=[]
 fz:List Nat:=[]
 al:Bool:=false
 n:Nat:=0

def Cfg.ty (C:Cfg)(t:Nat):Option TI:=C.tt.get t

def Yy:D→Bool
 | .sl _=>true
 | _=>false

def zc:D→CS
 | .sl _=> .n
 | .int _ _=> .s
 | .bool _=> .s
 | .str _=> .s
 | _=> .x

def La (z:List D):List CS:=z.map zc

def KN (z:List D):Bool:=z.all fun d=>match zc d with | .x=>false | _=>true

def uP (z:List D):Bool:=z.all oW

def hY:Value→D×CS
 | .int k n=>(.int k n,.s)
 | .bool b=>(.bool b,.s)
 | .string s=>(.str s,.s)
 | .slice none 0 0=>(.sl [],.n)
 | _=>(.bad,.x)

def rW:Value→Bool
 | .agg _=>false
 | .tuple _=>false
 | _=>true

def cC:Operand→Opd
 | .tmp t=> .t t
 | .const v=> .c (hY v).1
 | _=> .c .bad

def sP (L:Look)(g:Gd)(s:Nat):Sh:=
 match L s with
 | .opt gs b sh=>if g=some (gs,b) then sh else .dead
 | sh=>sh

def lS (L:Look)(g:Gd):Operand→Sh
 | .tmp t=>sP L g t
 | .const v=>match rW v with | true=> .v false [(hY v).2] | false=> .dead
 | .func f=> .clo f []
 | _=> .dead

def Sh.mapc (f:CS→CS):Sh→Sh
 | .v a cs=> .v a (cs.map f)
 | .box ro cs=> .box ro (cs.map f)
 | .el c off=> .el (f c) off
 | .tup ps=> .tup (ps.map fun p=>(p.1,p.2.map f))
 | .opt g b sh=> .opt g b (sh.mapc f)
 | sh=>sh

def Sh.cells:Sh→List CS
 | .v _ cs=>cs
 | .box _ cs=>cs
 | .tup ps=>ps.flatMap (·.2)
 | _=>[]

def Bb:Bool→Bool→Bool
 | true,b=>b
 | false,true=>false
 | false,false=>true

def Lb (a b:Fz):Bool:=Nat.beq a.sz b.sz&&Bb a.u b.u

structure Aff where
 h:Nat
 i:Nat
 m:Bool
 f:Fz
 own:CS
 to:CS

structure Up where
 aff:List Aff:=[]
 bx:List (Nat×Sh):=[]
 dst:Option (Nat×Sh):=none

def Up.find (u:Up)(h i:Nat):Option Aff:=u.aff.find? fun a=>Nat.beq a.h h&&Nat.beq a.i i

def Up.isDst (u:Up)(z:Nat):Bool:=match u.dst with | some (d,_)=>Nat.beq z d | none=>false

def CS.isTo (h i:Nat):CS→Bool
 | .al h' i' _ _=>Nat.beq h' h&&Nat.beq i' i
 | _=>false

def CS.toSlot (h:Nat):CS→Bool
 | .al h' _ _ _=>Nat.beq h' h
 | _=>false

def Up.isTo (u:Up)(h i:Nat):Bool:=u.aff.any fun a=>a.to.isTo h i

def Up.hit (u:Up)(b:Nat):Bool:=u.isDst b||u.bx.any (fun p=>Nat.beq p.1 b)||u.aff.any (fun a=>Nat.beq a.h b||a.to.toSlot b)

def Up.cell (u:Up)(z i:Nat)(c:CS):CS:=
 match c with
 | .al h k m f=>match u.find h k with
  | some a=>match Bb m a.m&&Lb f a.f with
   | true=>a.to
   | false=> .x
  | none=>match u.isDst h with
   | true=> .r
   | false=>match u.isTo h k with
    | true=> .x
    | false=> .al h k m f
 | .o m f=>match u.find z i with
  | some a=>match Bb m a.m&&Lb f a.f with
   | true=>a.own
   | false=> .x
  | none=>match u.isTo z i with
   | true=> .x
   | false=> .o m f
 | c=>c

def mapi (f:Nat→CS→CS):Nat→List CS→List CS
 | _,[]=>[]
 | i,c::r=>f i c::mapi f (i+1) r

def rP (f:Nat→CS→CS):Nat→List (Bool×List CS)→List (Bool×List CS)
 | _,[]=>[]
 | i,(a,cs)::r=>(a,mapi f i cs)::rP f (i+cs.length) r

def Up.map (u:Up)(z:Nat):Sh→Sh
 | .dead=> .dead
 | .v a cs=> .v a (mapi (u.cell z) 0 cs)
 | .box ro cs=> .box ro (mapi (u.cell z) 0 cs)
 | .el c off=> .el (u.cell z 0 c) off
 | .tup ps=> .tup (rP (u.cell z) 0 ps)
 | .pt b off=>match u.isDst b with | true=> .dead | false=> .pt b off
 | .bx b es off=>match u.isDst b with | true=> .dead | false=> .bx b es off
 | .clo g deps=>match deps.any u.hit with | true=> .dead | false=> .clo g deps
 | .opt g b sh=>match u.isDst g||u.bx.any (fun p=>Nat.beq p.1 g) with | true=> .dead | false=> .opt g b (u.map z sh)
 | .ld p h i=>match u.isDst p||u.hit h with | true=> .dead | false=> .ld p h i

def Up.at (u:Up)(z:Nat)(sh:Sh):Sh:=
 match u.isDst z with
 | true=> .dead
 | false=>match u.bx.lookup z with
  | some nsh=>nsh
  | none=>u.map z sh

def look:St→Look
 | [],_=> .dead
 | (k,sh)::r,z=>match Nat.beq z k with
  | true=>sh
  | false=>look r z

def Up.runs (u:Up):St→St
 | []=>[]
 | (z,sh)::r=>(z,u.at z sh)::u.runs r

def Up.run (u:Up)(S:St):St:=
 match u.dst with
 | some (d,nsh)=>(d,nsh)::u.runs S
 | none=>u.runs S

/- The kernel's run is quick only if what is handed on is written out: each of these hands on what it is given. -/
def fB {α:Type}(b:Bool)(k:Bool→α):α:=match b with | true=>k true | false=>k false

def fF {α:Type}(f:Fz)(k:Fz→α):α:=match f with | ⟨s,u⟩=>fB u fun u=>k ⟨s,u⟩

def fC {α:Type}(c:CS)(k:CS→α):α:=
 match c with
 | .n=>k .n | .s=>k .s | .r=>k .r | .b=>k .b | .x=>k .x
 | .o m f=>fB m fun m=>fF f fun f=>k (.o m f)
 | .al h i m f=>fB m fun m=>fF f fun f=>k (.al h i m f)

def fCs {α:Type}:List CS→(List CS→α)→α
 | [],k=>k []
 | c::r,k=>fC c fun c=>fCs r fun r=>k (c::r)

def fPs {α:Type}:List (Bool×List CS)→(List (Bool×List CS)→α)→α
 | [],k=>k []
 | (b,cs)::r,k=>fB b fun b=>fCs cs fun cs=>fPs r fun r=>k ((b,cs)::r)

def Yq {α:Type}:Sh→(Sh→α)→α
 | .dead,k=>k .dead
 | .v a cs,k=>fB a fun a=>fCs cs fun cs=>k (.v a cs)
 | .box a cs,k=>fB a fun a=>fCs cs fun cs=>k (.box a cs)
 | .pt b off,k=>k (.pt b off)
 | .el c off,k=>fC c fun c=>k (.el c off)
 | .bx b es off,k=>k (.bx b es off)
 | .clo g ds,k=>k (.clo g ds)
 | .tup ps,k=>fPs ps fun ps=>k (.tup ps)
 | .opt g b sh,k=>Yq sh fun sh=>k (.opt g b sh)
 | .ld p h i,k=>k (.ld p h i)

def UI {α:Type}(d:Option Nat):St→(St→α)→α
 | [],k=>k []
 | (z,sh)::r,k=>match sh with
  | .dead=>UI d r k
  | sh=>match (match d with | some d=>Nat.beq z d | none=>false) with
   | true=>UI d r k
   | false=>Yq sh fun sh=>UI d r fun r=>k ((z,sh)::r)

def Yz {α:Type}:List Aff→(List Aff→α)→α
 | [],k=>k []
 | ⟨h,i,m,f,o,t⟩::r,k=>fB m fun m=>fF f fun f=>fC o fun o=>fC t fun t=>Yz r fun r=>k (⟨h,i,m,f,o,t⟩::r)

def fBx {α:Type}:List (Nat×Sh)→(List (Nat×Sh)→α)→α
 | [],k=>k []
 | (b,sh)::r,k=>Yq sh fun sh=>fBx r fun r=>k ((b,sh)::r)

def fUp {α:Type}(u:Up)(k:Up→α):α:=
 match u with
 | ⟨aas,bx,dst⟩=>Yz aas fun aas=>fBx bx fun bx=>
  match dst with
  | none=>k ⟨aas,bx,none⟩
  | some (d,sh)=>Yq sh fun sh=>k ⟨aas,bx,some (d,sh)⟩

theorem KO {α:Type}(b:Bool)(k:Bool→α):fB b k=k b:=by cases b<;>rfl
theorem aBw {α:Type}(f:Fz)(k:Fz→α):fF f k=k f:=by cases f;simp [fF,KO]
theorem WD {α:Type}(c:CS)(k:CS→α):fC c k=k c:=by cases c<;>simp [fC,KO,aBw]
theorem Lc {α:Type}:∀ (c:List CS) (k:List CS→α),fCs c k=k c
 | [],_=>rfl
 | c::r,k=>by simp [fCs,WD,Lc r]
theorem WE {α:Type}:∀ (c:List (Bool×List CS)) (k:List (Bool×List CS)→α),fPs c k=k c
 | [],_=>rfl
 | (b,cs)::r,k=>by simp [fPs,KO,Lc,WE r]
theorem HF {α:Type}:∀ (sh:Sh) (k:Sh→α),Yq sh k=k sh
 | .dead,_=>rfl
 | .v _ _,_=>by simp [Yq,KO,Lc]
 | .box _ _,_=>by simp [Yq,KO,Lc]
 | .pt _ _,_=>rfl
 | .el _ _,_=>by simp [Yq,WD]
 | .bx _ _ _,_=>rfl
 | .clo _ _,_=>rfl
 | .tup _,_=>by simp [Yq,WE]
 | .opt _ _ sh,_=>by simp [Yq,HF sh]
 | .ld _ _ _,_=>rfl
theorem Sr {α:Type}:∀ (c:List Aff) (k:List Aff→α),Yz c k=k c
 | [],_=>rfl
 | ⟨_,_,_,_,_,_⟩::r,k=>by simp [Yz,KO,aBw,WD,Sr r]
theorem WF {α:Type}:∀ (c:List (Nat×Sh)) (k:List (Nat×Sh)→α),fBx c k=k c
 | [],_=>rfl
 | (_,_)::r,k=>by simp [fBx,HF,WF r]
theorem aCi {α:Type}(u:Up)(k:Up→α):fUp u k=k u:=by
 obtain ⟨aas,bx,dst⟩:=u
 cases dst<;>simp [fUp,Sr,WF,HF]

def alias (s:Nat):List CS→Nat→List CS
 | [],_=>[]
 | .o m f::r,i=> .al s i m f::alias s r (i+1)
 | c::r,i=>c::alias s r (i+1)

def KP (s i:Nat):CS→Option (Nat×Nat×Bool×Fz)
 | .o m f=>some (s,i,m,f)
 | .al h k m f=>some (h,k,m,f)
 | _=>none

def Ss:CS→Bool
 | .o _ _=>true
 | .al _ _ _ _=>true
 | _=>false

def wC (s d:Nat):List CS→Nat→Nat→Option (List Aff×List CS)
 | [],_,_=>some ([],[])
 | c::r,i,j=>
  match wC s d r (i+1) (j+1) with
  | none=>none
  | some (aas,cs)=>
   if Ss c then
    match KP s i c with
    | some (h,k,m,f)=>if h=d then none else some (⟨h,k,m,f,.al d j m f,.al d j m f⟩::aas,.o m f::cs)
    | none=>none
   else some (aas,c::cs)

def pX (s:Nat):List CS→Nat→Option (List Aff)
 | [],_=>some []
 | c::r,i=>
  match pX s r (i+1) with
  | none=>none
  | some aas=>
   match c with
   | .s=>some aas
   | .n=>some aas
   | .r=>some aas
   | .o m f=>some (⟨s,i,m,f,.r,.r⟩::aas)
   | .al h k m f=>some (⟨h,k,m,f,.r,.r⟩::aas)
   | _=>none

def WG:CS→CS→Bool
 | .al h i _ _,c=>c.isTo h i
 | _,_=>false

def bE (aas:List Aff):Bool:=match aas with | []=>true | a::r=> !(r.any fun b=>(Nat.beq b.h a.h&&Nat.beq b.i a.i)||WG a.to b.to)&&bE r

def oN (c:CS):Bool:=
 match c with
 | .al _ _ _ _=>false
 | _=>true

def zU (c:CS):Bool:=
 match c with
 | .x=>false
 | _=>true

def mS (c:CS):Bool:=
 match c with
 | .x=>false
 | .o m _=> !m
 | .al _ _ m _=> !m
 | _=>true

def kU (L:Look)(g:Gd)(x:Operand):Option CS:=
 match lS L g x with
 | .v false [c]=>if zU c∧c≠ .s then some c else none
 | _=>none

def scal (L:Look)(g:Gd)(x:Operand):Bool:=
 match lS L g x with
 | .v false [.s]=>true
 | _=>false

def WH (m:Bool)(f:Fz):CS:=
 match f.u,m with
 | false,_=> .r
 | true,false=> .b
 | true,true=> .x

def HG:CS→CS
 | .n=> .r
 | .r=> .r
 | .b=> .b
 | .o m f=>WH m f
 | .al _ _ m f=>WH m f
 | _=> .x

def Ld (c:CS)(z:List D):List CS:=z.map fun d=>if Yy d then HG c else .s

def pY (L:Look)(g:Gd)(d j:Nat)(x:Operand):Option (List Aff×Bool×List CS):=
 match x with
 | .const v=>match rW v with | true=>some ([],false,[(hY v).2]) | false=>none
 | .tmp s=>
  match sP L g s with
  | .v a cs=>if s=d then none else
   match wC s d cs 0 j with
   | some (aas,cs')=>some (aas,a,cs')
   | none=>none
  | _=>none
 | _=>none

abbrev Out:=Option (Up×PS)

def bS (d:Nat)(sh:Sh)(p:PS):Out:=some ({dst:=some (d,sh) },p)

def lK (s:Nat):List (Bool×List CS)→Nat→List (Bool×List CS)
 | [],_=>[]
 | (a,cs)::r,i=>(a,alias s cs i)::lK s r (i+cs.length)

def HH (L:Look)(g:Gd)(d:Nat)(x:Operand):Out:=
 match x with
 | .const v=>match rW v with | true=>bS d (.v false [(hY v).2]) (.mv d (cC x)) | false=>none
 | .tmp s=>match sP L g s with
  | .v a cs=>bS d (.v a (alias s cs 0)) (.mv d (.t s))
  | .box _ _=>bS d (.pt s 0) .nop
  | .pt b off=>bS d (.pt b off) .nop
  | .el c off=>bS d (.el c off) (.mv d (.t s))
  | .bx b es off=>bS d (.bx b es off) (.mv d (.t s))
  | .clo f deps=>bS d (.clo f deps) (.mv d (.t s))
  | .tup ps=>bS d (.tup (lK s ps 0)) (.mv d (.t s))
  | _=>none
 | .func f=>bS d (.clo f []) (.fn d f [] [])
 | _=>none

def Le (L:Look)(g:Gd)(d:Nat)(x:Operand):Out:=
 match lS L g x with
 | .v _ cs=>
  if cs.any Ss then
   match pY L g d 0 x with
   | some (aas,a,cs')=>if bE aas then some ({aff:=aas,dst:=some (d,.v a cs') },.mv d (cC x)) else none
   | none=>none
  else HH L g d x
 | _=>HH L g d x

def Pu (C:Cfg)(d t:Nat):Out:=
 match C.ty t with
 | some ti=>bS d (.box false (La ti.zero)) (.bld d ti.zero [])
 | none=>none

def Sh.names (d:Nat):Sh→Bool
 | .v _ cs=>cs.any (nm d)
 | .box _ cs=>cs.any (nm d)
 | .el c _=>nm d c
 | .tup ps=>ps.any fun p=>p.2.any (nm d)
 | .pt b _=>Nat.beq b d
 | .bx b _ _=>Nat.beq b d
 | .clo _ deps=>deps.any (Nat.beq d)
 | .opt g _ sh=>Nat.beq g d||sh.names d
 | .ld p h _=>Nat.beq p d||Nat.beq h d
 | .dead=>false
where
 nm (d:Nat):CS→Bool
  | .al h _ _ _=>Nat.beq h d
  | _=>false

def WI (C:Cfg)(L:Look)(g:Gd)(d t:Nat)(x:Operand):Out:=
 match C.ty t,x with
 | some ti,.tmp s=>match sP L g s with
  | .v a cs=>if a=ti.agg∧cs.length=ti.size∧(Sh.v a (alias s cs 0)).names d=false then some ({dst:=some (d,.box false (alias s cs 0)) },.mv d (.t s)) else none
  | _=>none
 | _,_=>none

def aCj (C:Cfg)(L:Look)(g:Gd)(d t:Nat)(x:Operand):Out:=
 match (match C.al with | true=>WI C L g d t x | false=>none) with
 | some r=>some r
 | none=>
 match C.ty t,pY L g d 0 x with
 | some ti,some (aas,a,cs)=>if a=ti.agg∧cs.length=ti.size∧bE aas then some ({aff:=aas,dst:=some (d,.box false cs) },.mv d (cC x)) else none
 | _,_=>none

def Cfg.fieldOf (C:Cfg)(t:Nat)(k:Nat):Option Nat:=
 match C.ty t with
 | some ti=>match ti.desc with
  | .struct fs=>match fs[k]? with
   | some (off,ft)=>match C.ty ft with
    | some fi=>if fi.size=0 then none else some off
    | none=>none
   | none=>none
  | _=>none
 | none=>none

def Cfg.place (C:Cfg)(t:Nat)(k:Nat):Option (Nat×Nat):=
 match C.ty t with
 | some ti=>match ti.desc with
  | .struct fs=>match fs[k]? with
   | some (off,ft)=>match C.ty ft with
    | some fi=>if fi.size=0 then none else some (off,fi.size)
    | none=>none
   | none=>none
  | .array _ e=>match C.ty e with
   | some ei=>some (k*ei.size,ei.size)
   | none=>none
  | _=>none
 | none=>none

def HI (C:Cfg)(L:Look)(g:Gd)(d t:Nat):List CS→List (Nat×Operand)→Option (List Aff×List CS×List (Nat×Opd))
 | cs,[]=>some ([],cs,[])
 | cs,(k,x)::r=>
  match C.place t k with
  | some (off,n)=>match pY L g d off x with
   | some (aas,_,xs)=>
    if xs.length=n∧off+n≤cs.length then
     match HI C L g d t (cs.take off++xs++cs.drop (off+n)) r with
     | some (as2,cs2,ps)=>some (aas++as2,cs2,(off,cC x)::ps)
     | none=>none
    else none
   | none=>none
  | none=>none

def Pv (C:Cfg)(L:Look)(g:Gd)(d t:Nat)(parts:List (Nat×Operand)):Out:=
 match C.ty t with
 | some ti=>
  match HI C L g d t (La ti.zero) parts with
  | some (aas,cs,ps)=>if ti.agg&&bE aas then some ({aff:=aas,dst:=some (d,.v true cs) },.bld d ti.zero ps) else none
  | none=>none
 | none=>none

def bY (L:Look)(g:Gd)(x:Operand):List CS:=
 match lS L g x with
 | .v _ cs=>cs
 | _=>[.x]

def Cs (L:Look)(g:Gd)(x:Operand):Bool:=
 match lS L g x with
 | .v _ cs=>cs.all mS
 | _=>false

def pZ (L:Look)(g:Gd)(x:Operand):Option (List Aff):=
 match x with
 | .const v=>match rW v with
  | true=>match (hY v).2 with | .x=>none | _=>some []
  | false=>none
 | .tmp s=>match sP L g s with
  | .v _ cs=>pX s cs 0
  | _=>none
 | _=>none

def wD (L:Look)(g:Gd):List (Nat×Operand)→Option (List Aff)
 | []=>some []
 | (_,x)::r=>match pZ L g x,wD L g r with
  | some aas,some bs=>some (aas++bs)
  | _,_=>none

def eM:List Nat→Bool
 | []=>true
 | a::r=> !(r.any (Nat.beq a))&&eM r

def sF (s:Nat):List CS→Nat→Option (List (Aff×Nat))
 | [],_=>some []
 | c::r,i=>
  match sF s r (i+1) with
  | none=>none
  | some aks=>
   match c with
   | .s=>some aks
   | .n=>some aks
   | .o true f=>if f.u=true then some ((⟨s,i,true,f,.x,.x⟩,i)::aks) else none
   | .al h k true f=>if f.u=true then some ((⟨h,k,true,f,.x,.x⟩,i)::aks) else none
   | _=>none

def HJ (L:Look)(g:Gd)(x:Operand):Option (List (Aff×Nat)):=
 match x with
 | .const v=>match rW v with
  | true=>match (hY v).2 with
   | .s=>some []
   | .n=>some []
   | _=>none
  | false=>none
 | .tmp s=>match sP L g s with
  | .v _ cs=>sF s cs 0
  | _=>none
 | _=>none

def kV (L:Look)(g:Gd):List (Nat×Operand)→Option (List (Aff×(Nat×Nat)))
 | []=>some []
 | (k,x)::r=>match HJ L g x,kV L g r with
  | some aks,some ps=>some (aks.map (fun q=>(q.1,(k,q.2)))++ps)
  | _,_=>none

def aCk (C:Cfg)(L:Look)(g:Gd)(d t len:Nat)(parts:List (Nat×Operand)):Out:=
 match C.ty t with
 | some ti=>match ti.desc with
  | .slice e=>match C.ty e with
   | some ei=>
    let ps:=parts.map fun p=>(p.1,cC p.2)
    match KN ei.zero&&parts.all (fun p=>Nat.beq (bY L g p.2).length ei.size&&Nat.ble (p.1+1) len)&&Nat.ble (len*ei.size) 16777216&&Nat.ble 1 ei.size with
    | false=>none
    | true=>
     match (match C.mv&&(C.bm.any (Nat.beq d)|| !(uP ei.zero)) with | true=>kV L g parts | false=>none) with
     | some qs=>match bE (qs.map (·.1))&&eM (parts.map (·.1)) with
      | true=>some ({aff:=qs.map (·.1),dst:=some (d,.v false [.o true ⟨ei.size,true⟩]) },.lit d len ei.zero ps)
      | false=>none
     | none=>
     match parts.any (fun p=>(bY L g p.2).any (fun c=>match c with | .b=>true | _=>false)) with
     | true=>match parts.all (fun p=>Cs L g p.2) with
      | true=>bS d (.v false [.b]) (.lit d len ei.zero ps)
      | false=>none
     | false=>match wD L g parts with
      | some aas=>match bE aas with
       | true=>some ({aff:=aas,dst:=some (d,.v false [.o (C.bm.any (Nat.beq d)) ⟨ei.size,false⟩]) },.lit d len ei.zero ps)
       | false=>none
      | none=>none
   | none=>none
  | _=>none
 | none=>none

def aCl:CS→List D→Bool→Option (Nat×Nat)
 | .al h i true ⟨_,true⟩,[.sl _],false=>some (h,i)
 | _,_,_=>none

theorem UJ {c:CS}{z:List D}{a:Bool}{h i:Nat}(hl:aCl c z a=some (h,i)):∃ f zl,c= .al h i true ⟨f,true⟩∧z=[.sl zl]∧a=false:=by
 unfold aCl at hl
 split at hl
 ·simp only [Option.some.injEq,Prod.mk.injEq] at hl
  obtain ⟨rfl,rfl⟩:=hl
  exact ⟨_,_,rfl,rfl,rfl⟩
 ·cases hl

def WJ (C:Cfg)(L:Look)(g:Gd)(d t:Nat)(a:Operand):Out:=
 match C.ty t,a with
 | some ti,.tmp s=>
  let fromBox (b off:Nat):Out:=
   match L b with
   | .box _ cs=>
    if off+ti.size≤cs.length then bS d (.v ti.agg (alias b ((cs.drop off).take ti.size) off)) (.sub d b off ti.size) else none
   | _=>none
  match sP L g s with
  | .box _ _=>fromBox s 0
  | .pt b off=>fromBox b off
  | .el c off=>if zU c then (match aCl c ti.zero ti.agg with
   | some (h,i)=>bS d (.ld s h i) (.eld d s off ti.zero)
   | none=>bS d (.v ti.agg (Ld c ti.zero)) (.eld d s off ti.zero)) else none
  | .bx b es off=>
   match L b with
   | .box _ cs=>if cs.all (· = .s)∧uP ti.zero then bS d (.v ti.agg (La ti.zero)) (.bxl d s b es off ti.size) else none
   | _=>none
  | _=>none
 | _,_=>none

def qA (cs:List CS)(b:Nat):Nat→Nat→List Aff
 | _,0=>[]
 | off,n+1=>(match cs.getD off .x with | .o m f=>[⟨b,off,m,f,.r,.r⟩] | _=>[])++qA cs b (off+1) n

def Yr (f:Fz):CS→Bool
 | .o true f'=>Lb f f'
 | _=>false

def rG (i:Nat)(f:Fz):Sh→Bool
 | .v _ cs=>Yr f (cs.getD i .x)&&cs.all oN
 | .box false cs=>Yr f (cs.getD i .x)&&cs.all oN
 | _=>false

def Pw (C:Cfg)(L:Look)(g:Gd)(t:Nat)(a x:Operand):Out:=
 match C.ty t,a with
 | some ti,.tmp s=>
  let toBox (b off:Nat):Out:=
   match L b with
   | .box false cs=>
    if off+ti.size≤cs.length then
     let old:=qA cs b off ti.size
     match pY L g b off x with
     | some (aas,_,xs)=>
      -- what the box owns cannot be moved within it here; nor may what is overwritten be what is stored
      if xs.length=ti.size∧bE (old++aas)∧cs.all oN then
       some ({aff:=old++aas,bx:=[(b,.box false (cs.take off++xs++cs.drop (off+ti.size)))] },.st b off (cC x))
      else none
     | none=>none
    else none
   | _=>none
  match sP L g s with
  | .box _ _=>toBox s 0
  | .pt b off=>toBox b off
  | .el (.al h i true ⟨f,false⟩) off=>
   match pZ L g x,L h with
   | some aas,sh=>match bE (⟨h,i,true,⟨f,false⟩,.o true ⟨f,false⟩,.x⟩::aas)&&Nat.beq (bY L g x).length ti.size&&rG i ⟨f,false⟩ sh&&aas.all (fun a=> !(Nat.beq a.h h)) with
    | true=>some ({aff:=⟨h,i,true,⟨f,false⟩,.o true ⟨f,false⟩,.x⟩::aas,bx:=[(h,sh)] },.els s off h i (cC x))
    | false=>none
   | none,_=>none
  | .el (.al h i true ⟨f,true⟩) off=>
   match HJ L g x,L h with
   | some aks,sh=>match bE (⟨h,i,true,⟨f,true⟩,.o true ⟨f,true⟩,.x⟩::aks.map (·.1))&&Nat.beq (bY L g x).length ti.size&&Nat.ble 1 ti.size&&rG i ⟨f,true⟩ sh&&aks.all (fun q=> !(Nat.beq q.1.h h)) with
    | true=>some ({aff:=⟨h,i,true,⟨f,true⟩,.o true ⟨f,true⟩,.x⟩::aks.map (·.1),bx:=[(h,sh)] },.els s off h i (cC x))
    | false=>none
   | none,_=>none
  | .bx b es off=>match L b with
   | .box false cs=>if cs.all (· = .s)∧bY L g x=La ti.zero∧uP ti.zero then
     some ({bx:=[(b,.box false cs)] },.bxs s b es off (cC x)) else none
   | _=>none
  | _=>none
 | _,_=>none

def aCm (L:Look)(g:Gd)(d:Nat)(x:Operand):Out:=
 match lS L g x with
 | .box _ _=>HH L g d x
 | .pt _ _=>HH L g d x
 | _=>none

def WK (L:Look)(d:Nat)(g:Gd)(c a b:Operand):Out:=
 match c with
 | .tmp tc=>
  if scal L g c&&(scal L (some (tc,true)) a||scal L g a)&&(scal L (some (tc,false)) b||scal L g b) then bS d (.v false [.s]) (.pick d (cC c) (cC a) (cC b)) else none
 | _=>none

def Px (C:Cfg)(L:Look)(g:Gd)(d t k:Nat)(x:Operand):Out:=
 match C.fieldOf t k,x with
 | some off,.tmp s=>match sP L g s with
  | .box _ _=>bS d (.pt s off) .nop
  | .pt b o=>bS d (.pt b (o+off)) .nop
  | .el c o=>bS d (.el c (o+off)) (.mv d (.t s))
  | _=>none
 | _,_=>none

def Lf (C:Cfg)(L:Look)(g:Gd)(d t k:Nat)(x:Operand):Out:=
 match C.ty t,x with
 | some ti,.tmp s=>match ti.desc,sP L g s with
  | .struct fs,.v true cs=>match fs[k]? with
   | some (off,ft)=>match C.ty ft with
    | some fi=>if off+fi.size≤cs.length then bS d (.v fi.agg (alias s ((cs.drop off).take fi.size) off)) (.sub d s off fi.size) else none
    | none=>none
   | none=>none
  | _,_=>none
 | _,_=>none

def CD (C:Cfg)(L:Look)(g:Gd)(d t:Nat)(x i:Operand):Out:=
 match C.ty t with
 | some ti=>if !(scal L g i) then none else match ti.desc with
  | .slice e=>match C.ty e,x with
   | some ei,.tmp s=>match kU L g x with
    | some c=>bS d (.el (match c with | .o m f=> .al s 0 m f | c=>c) 0) (.elp d (.t s) (cC i) ei.size)
    | none=>none
   | _,_=>none
  | .array n e=>match C.ty e,x with
   | some ei,.tmp s=>match sP L g s with
    | .box _ _=>bS d (.bx s ei.size 0) (.bxp d (cC i) n)
    | .pt b off=>bS d (.bx b ei.size off) (.bxp d (cC i) n)
    | _=>none
   | _,_=>none
  | _=>none
 | none=>none

def Py (C:Cfg)(L:Look)(g:Gd)(d t:Nat)(x i:Operand):Out:=
 match C.ty t with
 | some ti=>match ti.desc with
  | .str=>if scal L g x&&scal L g i then bS d (.v false [.s]) (.sidx d (cC x) (cC i)) else none
  | _=>none
 | none=>none

def HK (L:Look)(g:Gd)(d:Nat)(x:Operand)(k:Nat):Out:=
 match x with
 | .tmp s=>match sP L g s with
  | .tup ps=>match ps[k]? with
   | some (a,cs)=>
    let off:=((ps.take k).flatMap (·.2)).length
    bS d (.v a (alias s cs off)) (.ext d s off cs.length)
   | none=>none
  | _=>none
 | _=>none

def Sw (L:Look)(g:Gd)(o:Option Operand):Bool:=
 match o with
 | some i=>scal L g i
 | none=>true

def aEq (c:CS):Option CS:=
 match c with
 | .n=>some .r
 | .r=>some .r
 | .b=>some .b
 | c=>match mS c with
  | true=>some .b
  | false=>none

def Pz (C:Cfg)(L:Look)(g:Gd)(d t:Nat)(x:Operand)(lo hi mx:Option Operand):Out:=
 match Sw L g lo&&Sw L g hi&&Sw L g mx&&(mx.isNone||hi.isSome) with
 | false=>none
 | true=>
 match C.ty t with
 | some ti=>match ti.desc with
  | .str=>if scal L g x&&mx.isNone then bS d (.v false [.s]) (.ssl d (cC x) (lo.map cC) (hi.map cC)) else none
  | .slice e=>match C.ty e,x with
   | some ei,.tmp s=>match kU L g x with
    | some c=>match aEq c with
     | some c'=>bS d (.v false [c']) (.lsl d ei.size (.t s) (lo.map cC) (hi.map cC) (mx.map cC))
     | none=>none
    | none=>none
   | _,_=>none
  | _=>none
 | none=>none

def Cfg.isByte (C:Cfg)(t:Nat):Bool:=
 match C.ty t with
 | some ti=>match ti.desc with
  | .int .u8=>true
  | _=>false
 | none=>false

def Ct (C:Cfg)(L:Look)(g:Gd)(d src dst:Nat)(x:Operand):Out:=
 match C.ty src,C.ty dst with
 | some a,some b=>match a.desc,b.desc with
  | .int _,.int k=>if scal L g x then bS d (.v false [.s]) (.cvt d k (cC x)) else none
  | .int _,.str=>if scal L g x then bS d (.v false [.s]) (.i2s d (cC x)) else none
  | .str,.slice e=>if C.isByte e&&scal L g x then bS d (.v false [.o true ⟨1,false⟩]) (.s2b d (cC x)) else none
  | .slice e,.str=>match C.isByte e,kU L g x with
   | true,some _=>bS d (.v false [.s]) (.b2s d (cC x))
   | _,_=>none
  | _,_=>none
 | _,_=>none

def KQ (x:Operand)(c:CS):Option (Nat×Nat×Bool×Fz):=
 match x with
 | .tmp s=>KP s 0 c
 | _=>none

def Lg (C:Cfg)(L:Look)(g:Gd)(d t t2:Nat)(x y:Operand):Out:=
 match C.ty t,C.ty t2 with
 | some ti,some t2i=>match ti.desc,t2i.desc with
  | .slice e,.slice _=>match C.ty e,kU L g x,kU L g y with
   | some ei,some cx,some cy=>
    let sc:=uP ei.zero
    let ox:=KQ x cx
    let oy:=KQ y cy
    match (match cx with | .n=>C.mv | _=>(match ox with | some (_,_,m,f)=>m&&Lb f ⟨ei.size,true⟩ | none=>false)) with
    | true=>
     -- all below the base is owned with it
     let ax:List Aff:=match ox with | some (h,i,m,f)=>[⟨h,i,m,f,.x,.x⟩] | none=>[]
     let ay:Option (List Aff):=match sc with
      | true=>some []
      | false=>(match cy with | .n=>some [] | _=>(match oy with | some (h,i,m,f)=>(match m&&f.u with | true=>some [⟨h,i,m,f,.x,.x⟩] | false=>none) | none=>none))
     match ay with
     | none=>none
     | some ay=>match bE (ax++ay)&&KN ei.zero&&Nat.ble 1 ei.size with
      | true=>some ({aff:=ax++ay,dst:=some (d,.v false [.o true ⟨ei.size,true⟩]) },.app d ei.size sc (cC x) (cC y))
      | false=>none
    | false=>
    -- the base is owned, or nil
    let base:Option Bool:=match cx with | .n=>some true | _=>(match ox with | some (_,_,m,f)=>(match Lb f ⟨ei.size,false⟩ with | true=>some m | false=>none) | none=>none)
    match base with
    | none=>none
    | some m=>
     let ax:List Aff:=match ox with | some (h,i,m1,f1)=>[⟨h,i,m1,f1,if m then .x else .b,if m then .x else .b⟩] | none=>[]
     let ay:Option (List Aff):=match sc with | true=>some [] | false=>(match HG cy with | .r=>pZ L g y | _=>none)
     match ay with
     | none=>none
     | some ay=>
     match bE (ax++ay)&&(match ax with | []=>true | a::_=> !(Nat.beq a.h d))&&KN ei.zero&&Nat.ble 1 ei.size with
     | false=>none
     | true=>some ({aff:=ax++ay,dst:=some (d,.v false [.o m ⟨ei.size,false⟩]) },.app d ei.size sc (cC x) (cC y))
   | _,_,_=>none
  | _,_=>none
 | _,_=>none

def WL (C:Cfg)(L:Look)(g:Gd)(d t:Nat)(n c:Operand):Out:=
 match C.ty t with
 | some ti=>match ti.desc with
  | .slice e=>match C.ty e with
   | some ei=>if KN ei.zero&&Nat.ble 1 ei.size&&scal L g n&&scal L g c then bS d (.v false [.o true ⟨ei.size,C.mv⟩]) (.mk d ei.zero (cC n) (cC c)) else none
   | none=>none
  | _=>none
 | none=>none

def zV (L:Look)(g:Gd)(x:Operand):Bool:=
 match lS L g x with
 | .v a _=>a
 | _=>false

def aCn (c:CS):Bool:=
 match c with
 | .x=>false
 | .al _ _ _ _=>false
 | _=>true

def aBx (L:Look)(g:Gd)(x:Operand):Option Nat:=
 match x with
 | .tmp s=>match sP L g s with
  | .box _ cs=>match cs.all aCn with | true=>some s | false=>none
  | .pt b 0=>match L b with
   | .box _ cs=>match cs.all aCn with | true=>some b | false=>none
   | _=>none
  | _=>none
 | _=>none

def WM (L:Look)(g:Gd):List Operand→Option (List Nat)
 | []=>some []
 | x::r=>match aBx L g x,WM L g r with
  | some b,some l=>some (b::l)
  | _,_=>none

def WN (L:Look)(g:Gd)(d f:Nat)(fs cs:List Operand):Out:=
 match fs.all (Cs L g),WM L g cs with
 | true,some l=>bS d (.clo f l) (.fn d f (fs.map fun x=>(zV L g x,cC x)) l)
 | _,_=>none

abbrev Leaf:=Nat×Nat

structure CA where
 aas:List Aff:=[]
 hs:List (Leaf×Leaf):=[]
 rd:List Leaf:=[]
 bs:List (Nat×Sh):=[]
 os:List Opd:=[]
 deps:List Nat:=[]

def rX (bres:Bool)(s kp i:Nat)(c w:CS):Option (List Aff×List (Leaf×Leaf)×List Leaf):=
 match w with
 | .s=>match c with
  | .s=>some ([],[],[])
  | _=>none
 | .x=>some ([],[],[])
 | .b=>match c with
  | .n=>some ([],[],[])
  | .r=>some ([],[],[])
  | .b=>some ([],[],[])
  | .o m _=>(match m with | false=>some ([],[],[]) | true=>match bres with | true=>none | false=>some ([],[],[(s,i+1)]))
  | .al h k m _=>(match m with | false=>some ([],[],[]) | true=>match bres with | true=>none | false=>some ([],[],[(h,k+1)]))
  | _=>none
 | .r=>match c with
  | .n=>some ([],[],[])
  | .r=>some ([],[],[])
  | .o m f=>some ([⟨s,i,m,f,.r,.r⟩],[],[])
  | .al h k m f=>some ([⟨h,k,m,f,.r,.r⟩],[],[])
  | _=>none
 | .o m f=>match c with
  | .n=>some ([],[],[])
  | .o m' f'=>(match Bb m m'&&Lb f f' with | true=>some ([⟨s,i,m',f',if m' then .x else .b,if m' then .x else .b⟩],[((s,i+1),(kp,i+1))],[]) | false=>none)
  | .al h k m' f'=>(match Bb m m'&&Lb f f' with | true=>some ([⟨h,k,m',f',if m' then .x else .b,if m' then .x else .b⟩],[((h,k+1),(kp,i+1))],[]) | false=>none)
  | _=>none
 | .n=>match c with
  | .n=>some ([],[],[])
  | _=>none
 | _=>none

def fE (bres:Bool)(s kp:Nat):List CS→List CS→Nat→Option (List Aff×List (Leaf×Leaf)×List Leaf)
 | [],[],_=>some ([],[],[])
 | c::r,w::ws,i=>
  match rX bres s kp i c w,fE bres s kp r ws (i+1) with
  | some (a1,h1,r1),some (a2,h2,r2)=>some (a1++a2,h1++h2,r1++r2)
  | _,_=>none
 | _,_,_=>none

def xE (c w:CS):Bool:=
 match w with
 | .x=>oN c
 | .s=>(match c with | .s=>true | _=>false)
 | .r=>(match c with | .r=>true | .n=>true | _=>false)
 | .b=>(match c with | .r=>true | .n=>true | .b=>true | _=>false)
 | .o m f=>(match c with | .n=>true | .o m' f'=>Bb m m'&&Lb f f' | _=>false)
 | _=>false

def Gq:List CS→List CS→Bool
 | [],[]=>true
 | c::r,w::ws=>xE c w&&Gq r ws
 | _,_=>false

def xF (b:Nat):List CS→Nat→List Aff
 | [],_=>[]
 | .o m f::r,j=>⟨b,j,m,f,.o m f,if m then .x else .b⟩::xF b r (j+1)
 | _::r,j=>⟨b,j,true,⟨0,false⟩,.x,.x⟩::xF b r (j+1)

def kW (b kp:Nat):List CS→Nat→List (Leaf×Leaf)
 | [],_=>[]
 | .o _ _::r,j=>((b,j+1),(kp,j+1))::kW b kp r (j+1)
 | _::r,j=>kW b kp r (j+1)

def boxOf (L:Look)(g:Gd)(x:Operand):Option Nat:=
 match x with
 | .tmp s=>match sP L g s with
  | .box _ _=>some s
  | .pt b 0=>some b
  | _=>none
 | _=>none

def NE (v:Value)(a:Bool)(ws:List CS):Bool:=
 match rW v,a,ws with
 | true,false,[w]=>(match w,(hY v).2 with
  | .s,.s=>true
  | .r,.n=>true
  | .b,.n=>true
  | .o _ _,.n=>true
  | .n,.n=>true
  | _,_=>false)
 | _,_,_=>false

def Cu (L:Look)(g:Gd)(bres:Bool)(x:Operand)(p:PSh)(kp:Nat):Option CA:=
 match p with
 | .v a ws=>match x with
  | .const v=>match NE v a ws with
   | true=>some {os:=[cC x] }
   | false=>none
  | .tmp s=>match sP L g s with
   | .v a' cs=>match Bb a a' with
    | true=>match fE bres s kp cs ws 0 with
     | some (aas,hs,rd)=>some {aas:=aas,hs:=hs,rd:=rd,os:=[.t s] }
     | none=>none
    | false=>none
   | _=>none
  | _=>none
 | .box false ws=>match boxOf L g x with
  | some b=>match L b with
   | .box false cs=>match Gq cs ws with
    | true=>some {aas:=xF b cs 0,hs:=((b,0),(kp,0))::kW b kp cs 0,bs:=[(b,.box false ws)],os:=[.t b] }
    | false=>none
   | _=>none
  | none=>none
 | .clo f=>match bres,lS L g x with
  | false,.clo f' deps=>match Nat.beq f f' with
   | true=>some {os:=[match x with | .tmp s=> .t s | _=> .c (.fn f [] [])],deps:=deps }
   | false=>none
  | _,_=>none
 | _=>none

def CA.add (a b:CA):CA:=⟨a.aas++b.aas,a.hs++b.hs,a.rd++b.rd,a.bs++b.bs,a.os++b.os,a.deps++b.deps⟩

def wF (L:Look)(g:Gd)(bres:Bool):List Operand→List PSh→Nat→Option CA
 | [],[],_=>some {}
 | x::xs,p::ps,kp=>match Cu L g bres x p kp,wF L g bres xs ps (kp+1) with
  | some a,some b=>some (a.add b)
  | _,_=>none
 | _,_,_=>none

def gP (a b:Leaf):Bool:=Nat.beq a.1 b.1&&Nat.beq a.2 b.2

def zF (hs:List (Leaf×Leaf)):List Leaf:=hs.map (·.1)

def eT:List Leaf→Bool
 | []=>true
 | a::r=> !(r.any (gP a))&&eT r

def CA.ok (a:CA)(d:Nat):Bool:=
 bE a.aas&&eT (zF a.hs)&&eT (a.hs.map (·.2))&&eM (a.bs.map (·.1))&&a.rd.all (fun l=> !((zF a.hs).any (gP l)))&&a.deps.all (fun x=> !((zF a.hs).any (fun l=>Nat.beq l.1 x)))&&
  a.aas.all (fun x=> !(Nat.beq x.h d))&&a.bs.all (fun p=> !(Nat.beq p.1 d))

def jD:List PSh→Option Sh
 | [.v a cs]=>some (.v a cs)
 | [.nbox cs]=>some (.box false cs)
 | ps=>(go ps).map .tup
where
 go:List PSh→Option (List (Bool×List CS))
  | []=>some []
  | .v a cs::r=>(go r).map ((a,cs)::·)
  | _=>none

def QA (cs:List CS):Bool:=cs.any fun c=>match c with | .b=>true | _=>false

def Sig.bres (g:Sig):Bool:=(g.rs.any fun p=>match p with | .v _ cs=>QA cs | .nbox cs=>QA cs | _=>false)||(g.ps.any fun p=>match p with | .box false cs=>QA cs | _=>false)

def Sig.fine (g:Sig):Bool:=(g.rs.all fun p=>match p with | .v _ cs=>cs.all oN | .nbox cs=>cs.all oN | _=>true)&&(g.ps.all fun p=>match p with | .box false cs=>cs.all oN | .io _ _=>false | _=>true)

def QB (L:Look)(g:Gd)(d:Nat)(f:Nat)(sig:Sig)(args:List Operand):Out:=
 match wF L g sig.bres args sig.ps 0,jD sig.rs with
 | some A,some sh=>match A.ok d&&sig.fine with
  | true=>some ({aff:=A.aas,bx:=A.bs,dst:=some (d,sh) },.call d f sig A.os (A.bs.map (·.1)))
  | false=>none
 | _,_=>none

def ioW:CS→Bool
 | .s=>true
 | .o true ⟨0,true⟩=>true
 | _=>false

def Lh (s:Nat):List CS→Nat→Option (Nat×Nat)
 | [],_=>none
 | .o _ _::_,_=>some (s,0)
 | .al h k _ _::_,j=>match Nat.ble j k with | true=>some (h,k - j) | false=>none
 | _::r,j=>Lh s r (j+1)

def mB (s h:Nat):List CS→List CS→List CS→Nat→Option (List Aff)
 | [],[],[],_=>some []
 | c::r,w::ws,o::os,k=>
  match mB s h r ws os (k+1) with
  | none=>none
  | some aas=>match w with
   | .s=>(match c,o with | .s,.s=>some aas | _,_=>none)
   | .o true ⟨0,true⟩=>(match o with
    | .o true f=>(match f.u&&(match c with | .o m f'=>Nat.beq s h&&m&&Lb f f' | .al h' k' m f'=>Nat.beq h' h&&Nat.beq k' k&&m&&Lb f f' | _=>false) with
     | true=>some (⟨h,k,true,f,.x,.x⟩::aas)
     | false=>none)
    | _=>none)
   | _=>none
 | _,_,_,_=>none

def KR (cs ws:List CS)(i:Nat):List CS:=cs.take i++ws++cs.drop (i+ws.length)

def aCo (L:Look)(g:Gd)(d f:Nat)(sig:Sig)(args:List Operand):Out:=
 match sig.ps,sig.rs,args with
 | [.io a ws,.v false [.s]],[.v false [.s]],[.tmp s,y]=>
  if scal L g y&&ws.all ioW then
   match sP L g s with
   | .v a' cs=>match Bb a a',Lh s cs 0 with
    | true,some (h,i)=>match Nat.beq h d||(Nat.beq s h&&Nat.ble 1 i) with
     | true=>none
     | false=>match L h with
      | .v b os=>(match mB s h cs ws (os.drop i |>.take ws.length) i with
       | some aas=>(match bE aas&&os.all oN with
        | true=>some ({aff:=aas,bx:=[(h,.v b (KR os ws i))],dst:=some (d,.v false [.s]) },.ioc d f sig (.t s) (cC y) h i none)
        | false=>none)
       | none=>none)
      | .box false os=>(match mB s h cs ws (os.drop i |>.take ws.length) i with
       | some aas=>(match bE aas&&os.all oN with
        | true=>some ({aff:=aas,bx:=[(h,.box false (KR os ws i))],dst:=some (d,.v false [.s]) },.ioc d f sig (.t s) (cC y) h i none)
        | false=>none)
       | none=>none)
      | _=>none
    | _,_=>none
   | .ld p h i=>match Bb a false,ws,L p with
    | true,[.o true ⟨0,true⟩],.el (.al h' i' true ff) off=>
     match Nat.beq h h'&&Nat.beq i i'&&ff.u&&rG i ff (L h)&& !(Nat.beq h d) with
     | true=>some ({aff:=[⟨h,i,true,ff,.o true ff,.x⟩],bx:=[(h,L h)],dst:=some (d,.v false [.s]) },.ioc d f sig (.t s) (cC y) h i (some (p,off)))
     | false=>none
    | _,_,_=>none
   | _=>none
  else none
 | _,_,_=>none

def wG (f:Sig→Out):List Sig→Out
 | []=>none
 | s::r=>match f s with | some o=>some o | none=>wG f r

def Cfg.sig (C:Cfg)(f:Nat):List Sig:=match C.sigs.get f with | some l=>l | none=>[]

def QC (L:Look)(g:Gd)(d:Nat)(s f:Nat)(sig:Sig)(args:List Operand):Out:=
 match sig.bres with
 | true=>none
 | false=>
  match wF L g false args ((sig.ps.drop (sig.ps.length - ND sig.ps - args.length)).take args.length) 0,jD sig.rs with
  | some A,some sh=>match A.aas,A.hs,A.bs,sig.fine with
   | [],[],[],true=>bS d sh (.callc d s f sig A.os)
   | _,_,_,_=>none
  | _,_=>none

def Ys (C:Cfg)(L:Look)(g:Gd)(o:Oper):Out:=
 match o.op,o.dst with
 | .move x,some d=>HH L g d x
 | .assign x,some d=>Le L g d x
 | .pick c a b,some d=>WK L d g c a b
 | .alloc t,some d=>Pu C d t
 | .box t x,some d=>aCj C L g d t x
 | .build t ps,some d=>Pv C L g d t ps.toList
 | .buildSlice t n ps,some d=>aCk C L g d t n ps.toList
 | .load t a,some d=>WJ C L g d t a
 | .store t a x,none=>Pw C L g t a x
 | .nilCheck x,some d=>aCm L g d x
 | .binOp op t x y _,some d=>
  match C.ty t with
  | none=>none
  | some ti=>
   if scal L g x&&scal L g y then
    match ti.desc with
    | .bool=>match op with
     | .eql=>bS d (.v false [.s]) (.beq d false (cC x) (cC y))
     | .neq=>bS d (.v false [.s]) (.beq d true (cC x) (cC y))
     | _=>none
    | _=>bS d (.v false [.s]) (.bin d op (cC x) (cC y))
   else
   match lS L g x,lS L g y with
   | .v true cs,.v true ds=>if cs.all (· = .s)&&ds.all (· = .s)&&C.eqt.any (Nat.beq t) then
     match op with
     | .eql=>bS d (.v false [.s]) (.eqs d false ti.zero (cC x) (cC y))
     | .neq=>bS d (.v false [.s]) (.eqs d true ti.zero (cC x) (cC y))
     | _=>none else none
   | _,_=>none
 | .unOp op _ x,some d=>if scal L g x then bS d (.v false [.s]) (.un d op (cC x)) else none
 | .convert a b x,some d=>Ct C L g d a b x
 | .makeSlice t n c,some d=>WL C L g d t n c
 | .slice t x lo hi mx,some d=>Pz C L g d t x lo hi mx
 | .fieldAddr t x k,some d=>Px C L g d t k x
 | .field t x k,some d=>Lf C L g d t k x
 | .indexAddr t x i,some d=>CD C L g d t x i
 | .index t x i,some d=>Py C L g d t x i
 | .extract x k,some d=>HK L g d x k
 | .makeFunc (.func f) fs cs,some d=>WN L g d f fs.toList cs.toList
 | .call c,some d=>
  match c.callee,c.args.toList,c.argTypes.toList with
  | .builtin .len,[x],[t]=>match C.ty t with
   | some ti=>match ti.desc with
    | .slice _=>match kU L g x with
     | some _=>bS d (.v false [.s]) (.len d (cC x))
     | none=>none
    | .str=>if scal L g x then bS d (.v false [.s]) (.slen d (cC x)) else none
    | _=>none
   | none=>none
  | .builtin .min,[x,y],_=>if scal L g x&&scal L g y then bS d (.v false [.s]) (.min d (cC x) (cC y)) else none
  | .builtin .append,[x,y],[t,t2]=>Lg C L g d t t2 x y
  | .value (.func f),args,_=>wG (fun sig=>match QB L g d f sig args with | some r=>some r | none=>aCo L g d f sig args) (C.sig f)
  | .value (.tmp s),args,_=>match sP L g s with
   | .clo f _=>wG (fun sig=>QC L g d s f sig args) (C.sig f)
   | _=>none
  | _,_,_=>none
 | _,_=>none

def nJ (o:Op):Bool:=
 match o with
 | .call c=>match c.callee with
  | .value _=>true
  | _=>false
 | _=>false

def HL:PS→Bool
 | .call _ _ _ _ _=>false
 | .callc _ _ _ _ _=>false
 | .ioc _ _ _ _ _ _ _ _=>false
 | .g _ _ _ _=>false
 | _=>true

def HM (a:Aff):Bool:=
 match a.own,a.to with
 | .r,.r=>true
 | .b,.b=>true
 | .x,.x=>true
 | _,_=>false

def WO:CS→Bool
 | .o _ _=>false
 | .al _ _ _ _=>false
 | _=>true

def gBx (L:Look)(d:Nat)(p:Nat×Sh):Bool:=
 !(Nat.beq p.1 d)&&decide (L p.1=p.2)&&(match p.2 with | .box false cs=>cs.all WO | _=>false)

def ZA:Sh→Bool
 | .v false [.s]=>true
 | .opt _ _ sh=>ZA sh
 | _=>false

def WP (C:Cfg)(ops:Array Oper)(L:Look)(o:Oper):Out:=
 match o.guard with
 | none=>Ys C L none o
 | some (j,b)=>
  match (ops[j]?).bind (·.dst) with
  | none=>none
  | some gs=>match Ys C L (some (gs,b)) o with
   | some ({aff:=aas,bx:=bx,dst:=some (d,sh) },ps)=>
    if !(nJ o.op||HL ps) then none else
    if gs=d|| !(bx.all (gBx L d))|| !(aas.all HM)|| !(ZA (L gs))|| !(bE aas) then none else some ({aff:=aas,bx:=bx,dst:=some (d,.opt gs b sh) },.g gs b d ps)
   | _=>none

def HN (C:Cfg)(ops:Array Oper)(L:Look)(o:Oper):Out:=
 match WP C ops L o with
 | none=>none
 | some (u,p)=>match nJ o.op||HL p||o.guard.isSome with
  | false=>none
  | true=>match o.dst,u.dst with
   | none,none=>some (u,p)
   | some d',some (d,sh)=>match !(Nat.beq d' d)||sh.names d||Nat.ble C.n d||C.pin.any (Nat.beq d) with
    | true=>none
    | false=>some (u,p)
   | _,_=>none

end
section

def Opd.rd:Opd→List Nat
 | .t s=>[s]
 | .c _=>[]

def rdO (o:Option Opd):List Nat:=match o with | some x=>x.rd | none=>[]

def rdP:List (Nat×Opd)→List Nat
 | []=>[]
 | (_,x)::r=>x.rd++rdP r

def rdL:List Opd→List Nat
 | []=>[]
 | x::r=>x.rd++rdL r

def rdF:List (Bool×Opd)→List Nat
 | []=>[]
 | (_,x)::r=>x.rd++rdF r

def PS.rd:PS→List Nat
 | .nop=>[]
 | .mv _ x=>x.rd
 | .sub _ s _ _=>[s]
 | .bld _ _ ps=>rdP ps
 | .lit _ _ _ ps=>rdP ps
 | .mk _ _ n c=>n.rd++c.rd
 | .st b _ x=>b::x.rd
 | .bin _ _ x y=>x.rd++y.rd
 | .un _ _ x=>x.rd
 | .beq _ _ x y=>x.rd++y.rd
 | .eqs _ _ _ x y=>x.rd++y.rd
 | .pick _ c a b=>c.rd++(a.rd++b.rd)
 | .elp _ l i _=>l.rd++i.rd
 | .eld _ s _ _=>[s]
 | .els s _ h _ x=>s::h::x.rd
 | .bxp _ i _=>i.rd
 | .bxl _ s b _ _ _=>[s,b]
 | .bxs s b _ _ x=>s::b::x.rd
 | .len _ x=>x.rd
 | .slen _ x=>x.rd
 | .sidx _ x i=>x.rd++i.rd
 | .ssl _ x lo hi=>x.rd++(rdO lo++rdO hi)
 | .lsl _ _ x lo hi mx=>x.rd++(rdO lo++(rdO hi++rdO mx))
 | .app _ _ _ x y=>x.rd++y.rd
 | .cvt _ _ x=>x.rd
 | .s2b _ x=>x.rd
 | .b2s _ x=>x.rd
 | .ext _ s _ _=>[s]
 | .min _ x y=>x.rd++y.rd
 | .i2s _ x=>x.rd
 | .fn _ _ fs cs=>rdF fs++cs
 | .callc _ s _ _ args=>s::rdL args
 | .call _ _ _ args _=>rdL args
 | .ioc _ _ _ x y h _ pl=>h::(x.rd++(y.rd++(match pl with | some (p,_)=>[p] | none=>[])))
 | .g s _ _ p=>s::p.rd

def PS.wr:PS→List Nat
 | .nop=>[]
 | .mv d _=>[d]
 | .sub d _ _ _=>[d]
 | .bld d _ _=>[d]
 | .lit d _ _ _=>[d]
 | .mk d _ _ _=>[d]
 | .st b _ _=>[b]
 | .bin d _ _ _=>[d]
 | .un d _ _=>[d]
 | .beq d _ _ _=>[d]
 | .eqs d _ _ _ _=>[d]
 | .pick d _ _ _=>[d]
 | .elp d _ _ _=>[d]
 | .eld d _ _ _=>[d]
 | .els _ _ h _ _=>[h]
 | .bxp d _ _=>[d]
 | .bxl d _ _ _ _ _=>[d]
 | .bxs _ b _ _ _=>[b]
 | .len d _=>[d]
 | .slen d _=>[d]
 | .sidx d _ _=>[d]
 | .ssl d _ _ _=>[d]
 | .lsl d _ _ _ _ _=>[d]
 | .app d _ _ _ _=>[d]
 | .cvt d _ _=>[d]
 | .s2b d _=>[d]
 | .b2s d _=>[d]
 | .ext d _ _ _=>[d]
 | .min d _ _=>[d]
 | .i2s d _=>[d]
 | .fn d _ _ _=>[d]
 | .callc d _ _ _ _=>[d]
 | .call d _ _ _ bs=>d::bs
 | .ioc d _ _ _ _ h _ _=>[d,h]
 | .g _ _ d p=>d::p.wr

def UK (n:Nat):List Nat→Bool
 | []=>false
 | m::r=>match Nat.beq n m with | true=>true | false=>UK n r

def CE:List Nat→List Nat→Bool
 | [],_=>true
 | a::r,l=>match UK a l with | true=>false | false=>CE r l

def Sx (p q:PS):Bool:=CE p.wr q.rd&&CE p.wr q.wr&&CE q.wr p.rd

theorem HO {n:Nat}:∀ {l:List Nat},UK n l=true↔n∈l
 | []=>by simp [UK]
 | m::r=>by
  simp only [UK]
  cases hb:Nat.beq n m with
  | true=>simp [Nat.eq_of_beq_eq_true hb]
  | false=>
   have:n≠m:=Nat.ne_of_beq_eq_false hb
   simp [HO,this]

theorem HP:∀ {a b:List Nat},CE a b=true↔∀ x∈a,x∉b
 | [],_=>by simp [CE]
 | x::r,b=>by
  simp only [CE]
  cases hm:UK x b with
  | true=>simp [HO.1 hm]
  | false=>
   have:x∉b:=fun h=>by rw [HO.2 h] at hm;cases hm
   simp [HP,this]

end
section

def FB (C:Cfg)(ops:Array Oper)(S:St)(i:Nat):Option (St×PS):=
 match ops[i]? with
 | none=>none
 | some o=>match HN C ops (look S) o with
  | none=>none
  | some (u,p)=>fUp u fun u=>
   match u.dst with
   | none=>UI none (u.runs S) fun S1=>some (S1,p)
   | some (d,nsh)=>UI (some d) (u.runs S) fun S1=>some ((d,nsh)::S1,p)

def cSeq (C:Cfg)(ops:Array Oper):List Nat→St→Option (St×List PS)
 | [],S=>some (S,[])
 | i::r,S=>
  match FB C ops S i with
  | none=>none
  | some (S1,p)=>match cSeq C ops r S1 with
   | none=>none
   | some (S',ps)=>some (S',p::ps)

/-! ### Regions whose order is open: all orders, by the sets of operations that are done -/

def csE:CS→CS→Bool
 | .n,.n=>true
 | .s,.s=>true
 | .r,.r=>true
 | .b,.b=>true
 | .x,.x=>true
 | .o m f,.o m' f'=>Bb m m'&&Lb f f'
 | .al h i m f,.al h' i' m' f'=>Nat.beq h h'&&Nat.beq i i'&&Bb m m'&&Lb f f'
 | _,_=>false

def UL:List CS→List CS→Bool
 | [],[]=>true
 | a::r,b::q=>csE a b&&UL r q
 | _,_=>false

def Sy:List (Bool×List CS)→List (Bool×List CS)→Bool
 | [],[]=>true
 | (x,a)::r,(y,b)::q=>Bb x y&&UL a b&&Sy r q
 | _,_=>false

def nsE:List Nat→List Nat→Bool
 | [],[]=>true
 | a::r,b::q=>Nat.beq a b&&nsE r q
 | _,_=>false

def Ps:Sh→Sh→Bool
 | .dead,.dead=>true
 | .v a cs,.v b ds=>Bb a b&&UL cs ds
 | .box a cs,.box b ds=>Bb a b&&UL cs ds
 | .pt b o,.pt b' o'=>Nat.beq b b'&&Nat.beq o o'
 | .el c o,.el c' o'=>csE c c'&&Nat.beq o o'
 | .bx b e o,.bx b' e' o'=>Nat.beq b b'&&Nat.beq e e'&&Nat.beq o o'
 | .clo g d,.clo g' d'=>Nat.beq g g'&&nsE d d'
 | .tup ps,.tup qs=>Sy ps qs
 | .opt g b s,.opt g' b' s'=>Nat.beq g g'&&Bb b b'&&Ps s s'
 | .ld p h i,.ld p' h' i'=>Nat.beq p p'&&Nat.beq h h'&&Nat.beq i i'
 | _,_=>false

def leT (T:St):St→Bool
 | []=>true
 | (z,sh)::r=>(match sh with | .dead=>true | sh=>Ps (look T z) sh)&&leT T r

def kE:IntKind→IntKind→Bool
 | .i8,.i8 | .i16,.i16 | .i32,.i32 | .i64,.i64 | .u8,.u8 | .u16,.u16 | .u32,.u32 | .u64,.u64=>true
 | _,_=>false

def dE:D→D→Bool
 | .int k n,.int k' n'=>kE k k'&&decide (n=n')
 | .bool a,.bool b=>Bb a b
 | .str a,.str b=>decide (a=b)
 | .sl [],.sl []=>true
 | .bad,.bad=>true
 | _,_=>false

def dsE:List D→List D→Bool
 | [],[]=>true
 | a::r,b::q=>dE a b&&dsE r q
 | _,_=>false

def oE:Opd→Opd→Bool
 | .t a,.t b=>Nat.beq a b
 | .c a,.c b=>dE a b
 | _,_=>false

def ooE:Option Opd→Option Opd→Bool
 | none,none=>true
 | some a,some b=>oE a b
 | _,_=>false

def osE:List Opd→List Opd→Bool
 | [],[]=>true
 | a::r,b::q=>oE a b&&osE r q
 | _,_=>false

def WR:List (Nat×Opd)→List (Nat×Opd)→Bool
 | [],[]=>true
 | (x,a)::r,(y,b)::q=>Nat.beq x y&&oE a b&&WR r q
 | _,_=>false

def obE:List (Bool×Opd)→List (Bool×Opd)→Bool
 | [],[]=>true
 | (x,a)::r,(y,b)::q=>Bb x y&&oE a b&&obE r q
 | _,_=>false

def iS:PS→PS→Bool
 | .nop,.nop=>true
 | .mv d x,.mv d' x'=>Nat.beq d d'&&oE x x'
 | .sub d s o n,.sub d' s' o' n'=>Nat.beq d d'&&Nat.beq s s'&&Nat.beq o o'&&Nat.beq n n'
 | .bld d z ps,.bld d' z' ps'=>Nat.beq d d'&&dsE z z'&&WR ps ps'
 | .lit d n z ps,.lit d' n' z' ps'=>Nat.beq d d'&&Nat.beq n n'&&dsE z z'&&WR ps ps'
 | .mk d z n c,.mk d' z' n' c'=>Nat.beq d d'&&dsE z z'&&oE n n'&&oE c c'
 | .st b o x,.st b' o' x'=>Nat.beq b b'&&Nat.beq o o'&&oE x x'
 | .bin d op x y,.bin d' op' x' y'=>Nat.beq d d'&&decide (op=op')&&oE x x'&&oE y y'
 | .un d op x,.un d' op' x'=>Nat.beq d d'&&decide (op=op')&&oE x x'
 | .beq d n x y,.beq d' n' x' y'=>Nat.beq d d'&&Bb n n'&&oE x x'&&oE y y'
 | .eqs d n z x y,.eqs d' n' z' x' y'=>Nat.beq d d'&&Bb n n'&&dsE z z'&&oE x x'&&oE y y'
 | .pick d c a b,.pick d' c' a' b'=>Nat.beq d d'&&oE c c'&&oE a a'&&oE b b'
 | .elp d l i z,.elp d' l' i' z'=>Nat.beq d d'&&oE l l'&&oE i i'&&Nat.beq z z'
 | .eld d s o z,.eld d' s' o' z'=>Nat.beq d d'&&Nat.beq s s'&&Nat.beq o o'&&dsE z z'
 | .els s o h i x,.els s' o' h' i' x'=>Nat.beq s s'&&Nat.beq o o'&&Nat.beq h h'&&Nat.beq i i'&&oE x x'
 | .bxp d i l,.bxp d' i' l'=>Nat.beq d d'&&oE i i'&&Nat.beq l l'
 | .bxl d s b e o n,.bxl d' s' b' e' o' n'=>Nat.beq d d'&&Nat.beq s s'&&Nat.beq b b'&&Nat.beq e e'&&Nat.beq o o'&&Nat.beq n n'
 | .bxs s b e o x,.bxs s' b' e' o' x'=>Nat.beq s s'&&Nat.beq b b'&&Nat.beq e e'&&Nat.beq o o'&&oE x x'
 | .len d x,.len d' x'=>Nat.beq d d'&&oE x x'
 | .slen d x,.slen d' x'=>Nat.beq d d'&&oE x x'
 | .sidx d x i,.sidx d' x' i'=>Nat.beq d d'&&oE x x'&&oE i i'
 | .ssl d x l h,.ssl d' x' l' h'=>Nat.beq d d'&&oE x x'&&ooE l l'&&ooE h h'
 | .lsl d z x l h m,.lsl d' z' x' l' h' m'=>Nat.beq d d'&&Nat.beq z z'&&oE x x'&&ooE l l'&&ooE h h'&&ooE m m'
 | .app d z s x y,.app d' z' s' x' y'=>Nat.beq d d'&&Nat.beq z z'&&Bb s s'&&oE x x'&&oE y y'
 | .cvt d k x,.cvt d' k' x'=>Nat.beq d d'&&kE k k'&&oE x x'
 | .s2b d x,.s2b d' x'=>Nat.beq d d'&&oE x x'
 | .b2s d x,.b2s d' x'=>Nat.beq d d'&&oE x x'
 | .ext d s o n,.ext d' s' o' n'=>Nat.beq d d'&&Nat.beq s s'&&Nat.beq o o'&&Nat.beq n n'
 | .min d x y,.min d' x' y'=>Nat.beq d d'&&oE x x'&&oE y y'
 | .i2s d x,.i2s d' x'=>Nat.beq d d'&&oE x x'
 | .fn d g fs cs,.fn d' g' fs' cs'=>Nat.beq d d'&&Nat.beq g g'&&obE fs fs'&&nsE cs cs'
 | .callc d s f g aas,.callc d' s' f' g' as'=>Nat.beq d d'&&Nat.beq s s'&&Nat.beq f f'&&decide (g=g')&&osE aas as'
 | .call d f g aas bs,.call d' f' g' as' bs'=>Nat.beq d d'&&Nat.beq f f'&&decide (g=g')&&osE aas as'&&nsE bs bs'
 | .ioc d f g x y h i none,.ioc d' f' g' x' y' h' i' none=>Nat.beq d d'&&Nat.beq f f'&&decide (g=g')&&oE x x'&&oE y y'&&Nat.beq h h'&&Nat.beq i i'
 | .ioc d f g x y h i (some (p,o)),.ioc d' f' g' x' y' h' i' (some (p',o'))=>Nat.beq d d'&&Nat.beq f f'&&decide (g=g')&&oE x x'&&oE y y'&&Nat.beq h h'&&Nat.beq i i'&&Nat.beq p p'&&Nat.beq o o'
 | .g s b d p,.g s' b' d' p'=>Nat.beq s s'&&Bb b b'&&Nat.beq d d'&&iS p p'
 | _,_=>false

def CF (D i:Nat):Nat:=D||| 1<<<i

def QD (ops:Array Oper)(D i:Nat):Bool:=
 match D.testBit i with
 | true=>false
 | false=>match ops[i]? with
  | none=>false
  | some o=>o.after.toList.all fun e=> !(Region.binds .any e)||D.testBit e.on

def xG (ops:Array Oper)(D:Nat):List Nat:=(List.range ops.size).filter (QD ops D)

def WS (c:Call):Bool:=match c.callee with | .builtin .len=>true | _=>false

def HQ (o:Op)(p:PS):Bool:=
 match o with
 | .move _=>true
 | .pick _ _ _=>true
 | .binOp _ _ _ _ _=>(match p with | .bin _ _ _ _=>true | .beq _ _ _ _=>true | _=>false)
 | .unOp _ _ _=>true
 | .fieldAddr _ _ _=>true
 | .field _ _ _=>true
 | .indexAddr _ _ _=>true
 | .index _ _ _=>true
 | .extract _ _=>true
 | .nilCheck _=>true
 | .call c=>WS c
 | _=>false

def HR (o:Oper)(p:PS):Bool:=
 match o.guard with
 | none=>HQ o.op p
 | some _=>match p with
  | .g _ _ _ q=>HQ o.op q
  | _=>false

def Sz (ops:Array Oper)(D i:Nat):Bool:=
 match ops[i]? with
 | none=>false
 | some oi=>(List.range ops.size).all fun j=>Nat.beq j i||D.testBit j||(match ops[j]? with
   | some oj=>oj.after.any (fun e=>Region.binds .any e&&e.on==i)||oi.apart ops oj
   | none=>true)

abbrev Tb:=List (Nat×St)

def Cw:Tb→Nat→Option St
 | [],_=>none
 | (k,S)::r,n=>match Nat.beq n k with
  | true=>some S
  | false=>Cw r n

def Cy (D i:Nat):List PS→Nat→PS→Bool
 | [],_,_=>true
 | q::r,j,p=>match Nat.beq j i with
  | true=>true
  | false=>(D.testBit j||Sx q p)&&Cy D i r (j+1) p

def HS (C:Cfg)(ops:Array Oper)(ref:List PS)(tb:Tb)(D:Nat)(S:St)(i:Nat):Bool:=
 match FB C ops S i,ref[i]? with
 | some (S1,p),some q=>iS p q&&Cy D i ref 0 q&&(match Cw tb (CF D i) with | some S'=>leT S1 S' | none=>false)
 | _,_=>false

def EK (ops:Array Oper)(ref:List PS)(D:Nat):List Nat→Option Nat
 | []=>none
 | i::r=>match ops[i]?,ref[i]? with
  | some o,some p=>match HR o p&&Sz ops D i with
   | true=>some i
   | false=>EK ops ref D r
  | _,_=>EK ops ref D r

def ZB (C:Cfg)(ops:Array Oper)(ref:List PS)(tb:Tb)(Sf:St)(e:Nat×St):Bool:=
 match xG ops e.1 with
 | []=>(List.range ops.size).all (fun i=>e.1.testBit i)&&leT e.2 Sf
 | i::r=>match EK ops ref e.1 (i::r) with
  | some k=>HS C ops ref tb e.1 e.2 k
  | none=>(i::r).all (HS C ops ref tb e.1 e.2)

def NF (C:Cfg)(ops:Array Oper)(ref:List PS)(tb:Tb)(Sf:St):Tb→Bool
 | []=>true
 | e::r=>match ZB C ops ref tb Sf e with
  | true=>NF C ops ref tb Sf r
  | false=>false

def NG (C:Cfg)(ops:Array Oper)(ref:List PS)(D:Nat)(S:St)(have_:Nat→Bool):List Nat→Tb
 | []=>[]
 | i::r=>match have_ (CF D i) with
  | true=>NG C ops ref D S have_ r
  | false=>match FB C ops S i with
   | some (S1,_)=>(CF D i,S1)::NG C ops ref D S have_ r
   | none=>NG C ops ref D S have_ r

def aBz (C:Cfg)(ops:Array Oper)(ref:List PS):Nat→Tb→Tb→Tb
 | 0,_,acc=>acc
 | _,[],acc=>acc
 | n+1,(D,S)::q,acc=>
  let new:=match xG ops D with
   | []=>[]
   | i::r=>match EK ops ref D (i::r) with
    | some k=>NG C ops ref D S (fun m=>(Cw acc m).isSome) [k]
    | none=>NG C ops ref D S (fun m=>(Cw acc m).isSome) (i::r)
  aBz C ops ref n (q++new) (acc++new)

def WT (C:Cfg)(ops:Array Oper)(S:St):Option (St×List PS):=
 match cSeq C ops (List.range ops.size) S with
 | none=>none
 | some (Sf,ps)=>
  let tb:=aBz C ops ps 100000 [(0,S)] [(0,S)]
  match Region.noSelect ops&&(match Cw tb 0 with | some S0=>leT S S0 | none=>false)&&NF C ops ps tb Sf tb with
  | true=>some (Sf,ps)
  | false=>none

def WU:CS→CS
 | .al _ _ m _=>if m then .x else .b
 | c=>c

def QE:Sh→Sh
 | .el _ _=> .dead
 | .bx _ _ _=> .dead
 | .tup _=> .dead
 | .opt _ _ _=> .dead
 | .ld _ _ _=> .dead
 | sh=>sh.mapc WU

def aEu:List Bool→Nat→Bool
 | [],_=>true
 | b::r,n=>match n with
  | 0=>b
  | n+1=>aEu r n

def FC (k:List Bool):St→St
 | []=>[]
 | (z,sh)::r=>match aEu k z with
  | true=>(z,QE sh)::FC k r
  | false=>FC k r

def WV:CS→CS→Bool
 | _,.x=>true
 | .n,.n=>true
 | .n,.r=>true
 | .n,.b=>true
 | .n,.o _ _=>true
 | .s,.s=>true
 | .r,.r=>true
 | .r,.b=>true
 | .b,.b=>true
 | .o _ _,.r=>true
 | .o _ _,.b=>true
 | .o m f,.o m' f'=>(m|| !m')&&Lb f f'&&(Bb m m'||Nat.ble 1 f.sz)
 | _,_=>false

def UM:List CS→List CS→Bool
 | [],[]=>true
 | c::r,w::ws=>WV c w&&UM r ws
 | _,_=>false

def QF:Sh→Sh→Bool
 | _,.dead=>true
 | .v a cs,.v a' cs'=>Bb a a'&&UM cs cs'
 | .box ro cs,.box ro' cs'=>Bb ro ro'&&UM cs cs'
 | .pt b off,.pt b' off'=>Nat.beq b b'&&Nat.beq off off'
 | .clo g ds,.clo g' ds'=>Nat.beq g g'&&nsE ds ds'
 | _,_=>false

def ZC (T S0:St):St→Bool
 | []=>true
 | (z,sh)::r=>QF (look T z) sh&&Ps (look S0 z) sh&&ZC T S0 r

def WW (T S:St):Bool:=ZC T S S

def aEv (c d:CS):CS:=
 match csE c d with
 | true=>c
 | false=>
 match c,d with
 | .n,d=>(match d with | .s=> .x | d=>d)
 | c,.n=>(match c with | .s=> .x | c=>c)
 | .r,.b=> .b
 | .b,.r=> .b
 | .o _ _,.r=> .r
 | .r,.o _ _=> .r
 | .o _ _,.b=> .b
 | .b,.o _ _=> .b
 | .o m f,.o m' f'=>(match Lb f f' with | true=> .o (m&&m') f | false=> .x)
 | _,_=> .x

def QG:List CS→List CS→List CS
 | a::r,b::q=>aEv a b::QG r q
 | _,_=>[]

def aCs:List CS→List CS→Bool
 | [],[]=>true
 | _::r,_::q=>aCs r q
 | _,_=>false

def aCt (a b:Sh):Sh:=
 match Ps a b with
 | true=>a
 | false=>
 match a,b with
 | .v x cs,.v y ds=>(match Bb x y&&aCs cs ds with | true=> .v x (QG cs ds) | false=> .dead)
 | .box x cs,.box y ds=>(match Bb x y&&aCs cs ds with | true=> .box x (QG cs ds) | false=> .dead)
 | _,_=> .dead

def aEw (T:St):St→St
 | []=>[]
 | (z,sh)::r=>(z,match sh with
  | .pt b _=>(match look T b with | .box _ _=>sh | _=> .dead)
  | sh=>sh)::aEw T r

def aB0 (T:St):St→St
 | []=>[]
 | (z,sh)::r=>(z,aCt sh (look T z))::aB0 T r

def aB1 (S T:St):St:=UI none (aB0 T S) fun J=>aEw J J

structure Res where
 pc:PC
 out:Option St
 ex:List (Nat×St)

def WX (S T:St):Option St:=
 UI none (aB1 S T) fun J=>match WW S J&&WW T J with
  | true=>some J
  | false=>none

def TA:Option St→Option St→Option (Option St)
 | none,t=>some t
 | s,none=>some s
 | some S,some T=>match WX S T with
  | some J=>some (some J)
  | none=>none

def Cz:List St→Option St→Option (Option St)
 | [],o=>some o
 | S::r,o=>match TA o (some S) with
  | some o'=>Cz r o'
  | none=>none

def WY (id:Nat):List (Nat×St)→List St
 | []=>[]
 | (k,S)::r=>match Nat.beq k id with
  | true=>S::WY id r
  | false=>WY id r

def NH (id:Nat):List (Nat×St)→List (Nat×St)
 | []=>[]
 | (k,S)::r=>match Nat.beq k id with
  | true=>NH id r
  | false=>(k,S)::NH id r

structure Fin where
 results:List ResultVar
 sig:Sig

def Li (C:Cfg)(L:Look)(r:ResultVar)(p:PSh):Option (Nat×St):=
 match r,p with
 | .tmp s,.v a ws=>some (s,[(s,.v a ws)])
 | .cell s t,.v a ws=>match C.ty t with
  | some ti=>match Bb a ti.agg&&Nat.beq ws.length ti.size with
   | true=>some (s,[(s,.box false ws)])
   | false=>none
  | none=>none
 | .tmp s,.nbox ws=>match L s with
  | .pt b 0=>some (b,[(s,.pt b 0),(b,.box false ws)])
  | .box false _=>some (s,[(s,.box false ws)])
  | _=>none
 | _,_=>none

def sQ (C:Cfg)(L:Look):List ResultVar→List PSh→Option (List Nat×St)
 | [],[]=>some ([],[])
 | r::rs,p::ps=>match Li C L r p,sQ C L rs ps with
  | some (s,S),some (l,T)=>some (s::l,S++T)
  | _,_=>none
 | _,_=>none

def HT:List (Nat×List CS)→St
 | []=>[]
 | (k,ws)::r=>(k,.box false ws)::HT r

def boxPs:List PSh→Nat→List (Nat×List CS)
 | [],_=>[]
 | .box false ws::r,k=>(k,ws)::boxPs r (k+1)
 | _::r,k=>boxPs r (k+1)

def wH (C:Cfg)(F:Fin)(S:St):Option (List Nat×St):=
 match sQ C (look S) F.results F.sig.rs with
 | some (l,T)=>
  let m:=(boxPs F.sig.ps 0).map (·.1)
  let R:=T++HT (boxPs F.sig.ps 0)
  match eM (l++m)&&WW S R with
  | true=>some (l++m,R)
  | false=>none
 | none=>none

def TB (C:Cfg)(ops:Array Oper)(draw:Bool)(S:St):Option (St×List PS):=
 match (match draw with | false=>cSeq C ops (List.range ops.size) S | true=>WT C ops S) with
 | some (S',ps)=>some (match C.al with | true=>S' | false=>FC C.keep S',ps)
 | none=>none

def ZD (f:St→Option Res):Nat→St→Option (Res×St)
 | 0,_=>none
 | n+1,S=>
  match f S with
  | none=>none
  | some r=>
   match r.out with
   | none=>some (r,S)
   | some T=>match WW T S with
    | true=>some (r,S)
    | false=>UI none (aB1 S T) fun S'=>match WW S S' with
     | true=>ZD f n S'
     | false=>none

def aF8:CS→CS
 | .o _ _=> .r
 | c=>c
def aEx:St→St
 | []=>[]
 | (z,sh)::r=>(z,sh.mapc aF8)::aEx r
def aCu (C:Cfg)(id:Nat)(S:St):Option St:=
 match C.fz.any (Nat.beq id) with
 | false=>some S
 | true=>UI none (aEx S) fun S0=>match WW S S0 with
  | true=>some S0
  | false=>none

def cCode (C:Cfg)(F:Fin):Code→St→Option Res
 | .skip,S=>some ⟨.skip,some S,[]⟩
 | .region id ops dr,S=>match C.fail.any (Nat.beq id) with
  | true=>some ⟨.fail,none,[]⟩
  | false=>match aCu C id S with
   | some S=>match TB C ops dr S with
    | some (S',ps)=>UI none S' fun S'=>some ⟨.ss ps,some S',[]⟩
    | none=>none
   | none=>none
 | .seq a b,S=>match cCode C F a S with
  | none=>none
  | some ra=>match ra.out with
   | none=>some ⟨ra.pc,none,ra.ex⟩
   | some T=>match cCode C F b T with
    | none=>none
    | some rb=>some ⟨.seq ra.pc rb.pc,rb.out,ra.ex++rb.ex⟩
 | .cond c a b,S=>
  if !(scal (look S) none c) then none else
  match cCode C F a S,cCode C F b S with
  | some ra,some rb=>match TA ra.out rb.out with
   | some o=>some ⟨.cond (cC c) ra.pc rb.pc,o,ra.ex++rb.ex⟩
   | none=>none
  | _,_=>none
 | .block id a,S=>match cCode C F a S with
  | none=>none
  | some r=>match Cz (WY id r.ex) r.out with
   | some o=>some ⟨.block id r.pc,o,NH id r.ex⟩
   | none=>none
 | .loop a,S=>match ZD (cCode C F a) 6 S with
  | some (r,_)=>some ⟨.loop r.pc,none,r.ex⟩
  | none=>none
 | .exit id,S=>some ⟨.exit id,none,[(id,S)]⟩
 | .ret,S=>match wH C F S with
  | some (l,_)=>some ⟨.ret l,none,[]⟩
  | none=>none
 | _,_=>none

def xH:PSh→Sh
 | .v a cs=> .v a cs
 | .io a cs=> .v a cs
 | .box ro cs=> .box ro cs
 | .clo g=> .clo g []
 | .nbox _=> .dead

def CG:List PSh→Nat→St
 | [],_=>[]
 | p::r,k=>(k,xH p)::CG r (k+1)

def rQ (sig:Sig):St:=CG sig.ps 0

def aR (C:Cfg)(f:Func)(sig:Sig):Option PC:=
 match Nat.beq f.ntmps C.n&&Nat.ble sig.ps.length C.n&&(boxPs sig.ps 0).all (fun p=>C.pin.any (Nat.beq p.1)) with
 | false=>none
 | true=>
 match f.body with
 | none=>none
 | some c=>
  match cCode C ⟨f.results.toList,sig⟩ c (rQ sig) with
  | none=>none
  | some r=>match r.out with
   | none=>some r.pc
   | some S=>match wH C ⟨f.results.toList,sig⟩ S with
    | some (l,_)=>some (.seq r.pc (.ret l))
    | none=>none

end
section

def lim:Nat:=1073741824

def cA (c:List D)(off:Nat)(xs:List D):List D:=c.take off++xs++c.drop (off+xs.length)

def aT:D→D→Bool
 | .int j a,.int k b=>j==k&&a==b
 | .bool a,.bool b=>a==b
 | .str a,.str b=>a.toList==b.toList
 | _,_=>false

def eqDs:List D→List D→Bool
 | [],[]=>true
 | a::r,b::q=>aT a b&&eqDs r q
 | _,_=>false

def fits:List D→List D→Bool
 | [],[]=>true
 | a::r,b::q=>(match a,b with
  | .int j _,.int k _=>j==k
  | .bool _,.bool _=>true
  | .str _,.str _=>true
  | _,_=>false)&&fits r q
 | _,_=>false

def uQ:List D→List D→Bool
 | [],[]=>true
 | a::r,b::q=>(match a,b with
  | .int j _,.int k _=>j==k
  | .bool _,.bool _=>true
  | .str _,.str _=>true
  | .sl _,.sl _=>true
  | _,_=>false)&&uQ r q
 | _,_=>false

def WZ (op:BinOp)(k:IntKind)(x y:Int):Option D:=
 let a:=BitVec.ofInt k.bits x
 let b:=BitVec.ofInt k.bits y
 match op with
 | .and=>some (.int k (k.wrap (a&&& b).toNat))
 | .or=>some (.int k (k.wrap (a||| b).toNat))
 | .xor=>some (.int k (k.wrap (a^^^b).toNat))
 | .andNot=>some (.int k (k.wrap (a&&& ~~~b).toNat))
 | _=>none

def EL (op:BinOp)(k:IntKind)(x y:Int):Option D:=
 match op with
 | .add=>some (.int k (k.wrap (x+y)))
 | .sub=>some (.int k (k.wrap (x - y)))
 | .mul=>some (.int k (k.wrap (x*y)))
 | .quo=>if y=0 then none else some (.int k (k.wrap (x.tdiv y)))
 | .rem=>if y=0 then none else some (.int k (x.tmod y))
 | .eql=>some (.bool (x==y))
 | .neq=>some (.bool (x != y))
 | .lss=>some (.bool (decide (x<y)))
 | .leq=>some (.bool (decide (x≤y)))
 | .gtr=>some (.bool (decide (x>y)))
 | .geq=>some (.bool (decide (x≥y)))
 | op=>WZ op k x y

def Lj (op:BinOp)(k:IntKind)(x y:Int):Option D:=
 if y<0 then none else
 match op with
 | .shl=>some (.int k (k.wrap (x*2^(min y.toNat k.bits))))
 | .shr=>some (.int k (x.fdiv (2^(min y.toNat k.bits))))
 | _=>none

def QH (op:BinOp)(x y:ByteArray):Option D:=
 match op with
 | .add=>if x.size+y.size≤lim then some (.str (x++y)) else none
 | .eql=>some (.bool (x.toList==y.toList))
 | .neq=>some (.bool (!(x.toList==y.toList)))
 | _=>none

def BR (op:BinOp)(x y:D):Option D:=
 match x,y with
 | .int k a,.int k' b=>
  match op with
  | .shl=>Lj op k a b
  | .shr=>Lj op k a b
  | op=>if k=k' then EL op k a b else none
 | .str a,.str b=>QH op a b
 | _,_=>none

def unV (op:UnOp)(x:D):Option D:=
 match op,x with
 | .neg,.int k n=>some (.int k (k.wrap (0 - n)))
 | .not,.bool b=>some (.bool (!b))
 | _,_=>none

def one (f:D→Option D):List D→Option (List D)
 | [x]=>(f x).map ([·])
 | _=>none

def Jn (f:D→D→Option D):List D→List D→Option (List D)
 | [x],[y]=>(f x y).map ([·])
 | _,_=>none

def CH (s:ByteArray):List (List D):=s.data.toList.map fun b=>[.int .u8 b.toNat]

def Wa:List D→Option UInt8
 | [.int .u8 n]=>some (UInt8.ofNat n.toNat)
 | _=>none

def Bc:List (List D)→Option (List UInt8)
 | []=>some []
 | x::r=>match Wa x,Bc r with
  | some b,some l=>some (b::l)
  | _,_=>none

def EM (e:Env)(o:Option Opd)(dft:Nat):Option Nat:=
 match o with
 | none=>some dft
 | some x=>match x.get e with
  | [.int _ n]=>if 0≤n then some n.toNat else none
  | _=>none

def CI (e:Env):List (List D)→List (Nat×Opd)→List (List D)
 | xs,[]=>xs
 | xs,(k,x)::r=>CI e (xs.set k (x.get e)) r

def DA (e:Env):List D→List (Nat×Opd)→List D
 | c,[]=>c
 | c,(off,x)::r=>DA e (cA c off (x.get e)) r

def iZ (e:Env):List Nat→List (List D)→Env
 | b::bs,c::cs=>iZ (put e b c) bs cs
 | _,_=>e

def pstep (p:PS)(e:Env):Option Env:=
 match p with
 | .nop=>some e
 | .mv d x=>some (put e d (x.get e))
 | .sub d s off n=>if off+n≤(e s).length then some (put e d (((e s).drop off).take n)) else none
 | .ext d s off n=>if off+n≤(e s).length then some (put e d (((e s).drop off).take n)) else none
 | .bld d zero ps=>some (put e d (DA e zero ps))
 | .lit d n zero ps=>some (put e d [.sl (CI e (List.replicate n zero) ps)])
 | .mk d zero n c=>match n.get e,c.get e with
  | [.int _ k],[.int _ m]=>if 0≤k∧k≤m∧m≤lim then some (put e d [.sl (List.replicate k.toNat zero)]) else none
  | _,_=>none
 | .st b off x=>if off+(x.get e).length≤(e b).length then some (put e b (cA (e b) off (x.get e))) else none
 | .bin d op x y=>(Jn (BR op) (x.get e) (y.get e)).map (put e d)
 | .un d op x=>(one (unV op) (x.get e)).map (put e d)
 | .beq d neg x y=>match x.get e,y.get e with
  | [.bool a],[.bool b]=>some (put e d [.bool ((a==b) != neg)])
  | _,_=>none
 | .eqs d neg zs x y=>if fits zs (x.get e)&&fits zs (y.get e) then some (put e d [.bool (eqDs (x.get e) (y.get e) != neg)]) else none
 | .pick d c a b=>match c.get e with
  | [.bool t]=>some (put e d (if t then a.get e else b.get e))
  | _=>none
 | .elp d l i sz=>match l.get e,i.get e with
  | [.sl xs],[.int k n]=>if 0≤n then match xs[n.toNat]? with
    | some x=>if x.length=sz then some (put e d [.sl xs,.int k n]) else none
    | none=>none
   else none
  | _,_=>none
 | .eld d s off zs=>match e s with
  | [.sl xs,.int _ k]=>match xs[k.toNat]? with
   | some x=>if off+zs.length≤x.length&&uQ zs ((x.drop off).take zs.length) then some (put e d ((x.drop off).take zs.length)) else none
   | none=>none
  | _=>none
 | .els s off h i x=>match e s,(e h)[i]? with
  | [.sl xs,.int _ k],some (.sl ys)=>match xs[k.toNat]?,ys[k.toNat]? with
   | some a,some b=>if a.length=b.length∧off+(x.get e).length≤b.length then
     some (put e h ((e h).set i (.sl (ys.set k.toNat (cA b off (x.get e)))))) else none
   | _,_=>none
  | _,_=>none
 | .bxp d i len=>match i.get e with
  | [.int k n]=>if 0≤n∧n<len then some (put e d [.int k n]) else none
  | _=>none
 | .bxl d s b es off n=>match e s with
  | [.int _ k]=>if k.toNat*es+off+n≤(e b).length then some (put e d (((e b).drop (k.toNat*es+off)).take n)) else none
  | _=>none
 | .bxs s b es off x=>match e s with
  | [.int _ k]=>if k.toNat*es+off+(x.get e).length≤(e b).length then some (put e b (cA (e b) (k.toNat*es+off) (x.get e))) else none
  | _=>none
 | .len d x=>match x.get e with
  | [.sl xs]=>some (put e d [.int .i64 xs.length])
  | _=>none
 | .slen d x=>match x.get e with
  | [.str s]=>some (put e d [.int .i64 s.size])
  | _=>none
 | .sidx d x i=>match x.get e,i.get e with
  | [.str s],[.int _ n]=>if 0≤n then match s[n.toNat]? with
    | some b=>some (put e d [.int .u8 b.toNat])
    | none=>none
   else none
  | _,_=>none
 | .ssl d x lo hi=>match x.get e with
  | [.str s]=>match EM e lo 0,EM e hi s.size with
   | some l,some h=>if l≤h∧h≤s.size then some (put e d [.str (s.extract l h)]) else none
   | _,_=>none
  | _=>none
 | .lsl d sz x lo hi mx=>match x.get e with
  | [.sl xs]=>match EM e lo 0,EM e hi xs.length with
   | some l,some h=>match EM e mx h with
    | some m=>if l≤h∧h≤xs.length∧(mx=none∨m=h)∧(∀ x∈xs,x.length=sz) then some (put e d [.sl ((xs.take h).drop l)]) else none
    | none=>none
   | _,_=>none
  | _=>none
 | .app d sz sc x y=>match x.get e,y.get e with
  | [.sl xs],[.sl ys]=>if xs.length+ys.length≤lim∧(∀ x∈xs++ys,x.length=sz)∧(sc=true→∀ y∈ys,y.all oW=true) then some (put e d [.sl (xs++ys)]) else none
  | _,_=>none
 | .cvt d k x=>match x.get e with
  | [.int _ n]=>some (put e d [.int k (k.wrap n)])
  | _=>none
 | .s2b d x=>match x.get e with
  | [.str s]=>if s.size≤lim then some (put e d [.sl (CH s)]) else none
  | _=>none
 | .b2s d x=>match x.get e with
  | [.sl xs]=>match Bc xs with
   | some l=>some (put e d [.str ⟨l.toArray⟩])
   | none=>none
  | _=>none
 | .i2s d x=>match x.get e with
  | [.int _ n]=>if 0≤n∧n<128 then some (put e d [.str ⟨#[UInt8.ofNat n.toNat]⟩]) else none
  | _=>none
 | .min d x y=>match x.get e,y.get e with
  | [.int k a],[.int k' b]=>if k=k' then some (put e d [.int k (if b<a then b else a)]) else none
  | _,_=>none
 | .fn d g fs cs=>some (put e d [.fn g (fs.map fun p=>(p.1,p.2.get e)) (cs.map e)])
 | .call _ _ _ _ _=>none
 | .callc _ _ _ _ _=>none
 | .ioc _ _ _ _ _ _ _ _=>none
 | .g _ _ _ _=>none

def okW (w:CS)(d:D):Bool:=
 match w with
 | .s=>oW d
 | .b=>true
 | .x=>true
 | _=>false

def HU:List CS→List D→Bool
 | [],[]=>true
 | w::ws,d::ds=>okW w d&&HU ws ds
 | _,_=>false

def kX:List PSh→List (Bool×List D)→Bool
 | [],[]=>true
 | .v a ws::ps,(b,ds)::fs=>a==b&&HU ws ds&&kX ps fs
 | _,_=>false

def nK:List PSh→List (List D)→Bool
 | [],[]=>true
 | .box true ws::ps,ds::cs=>HU ws ds&&nK ps cs
 | _,_=>false

abbrev Ask:=Nat→Sig→List (List D)→List (List D)→Prop

def cG (Φ:Ask):PS→Env→Env→Prop
 | .call d f sig args bs,e,e'=>∃ rs xs,Φ f sig (args.map (·.get e)) (rs++xs)∧rs.length=sig.rs.length∧xs.length=bs.length∧e'=put (iZ e bs xs) d rs.flatten
 | .callc d s f sig args,e,e'=>∃ fs cs rs,e s=[.fn f fs cs]∧fs.length+args.length+cs.length=sig.ps.length∧cs.length=ND sig.ps∧kX (sig.ps.take fs.length) fs=true∧nK (sig.ps.drop (fs.length+args.length)) cs=true∧
   Φ f sig (fs.map (·.2)++args.map (·.get e)++cs) rs∧rs.length=sig.rs.length∧e'=put e d rs.flatten
 | .ioc d f sig x y h i none,e,e'=>∃ r c,((e h).drop i).take (x.get e).length=x.get e∧Φ f sig [x.get e,y.get e] [r,c]∧c.length=(x.get e).length∧e'=put (put e h (cA (e h) i c)) d r
 | .ioc d f sig _ y h i (some (p,off)),e,e'=>∃ xs k n ys a b zz r dd',e p=[.sl xs,.int k n]∧(e h)[i]? =some (.sl ys)∧xs[n.toNat]? =some a∧ys[n.toNat]? =some b∧a.length=b.length∧b[off]? =some (.sl zz)∧Φ f sig [[.sl zz],y.get e] [r,[dd']]∧e'=put (put e h ((e h).set i (.sl (ys.set n.toNat (b.set off dd'))))) d r
 | .g s b d p,e,e'=>(e s=[.bool b]∧cG Φ p e e')∨(e s≠[.bool b]∧e'=put e d [])
 | p,e,e'=>pstep p e=some e'

def qB (Φ:Ask):List PS→Env→Env→Prop
 | [],e,e'=>e'=e
 | p::ps,e,e'=>∃ e1,cG Φ p e e1∧qB Φ ps e1 e'

inductive PX where
 | normal | exit (id:Nat) | ret (vs:List (List D))

def PX.then (K:Env→Prop)(Q:PX→Env→Prop):PX→Env→Prop
 | .normal,e=>K e
 | x,e=>Q x e

def PX.inBlock (id:Nat)(Q:PX→Env→Prop):PX→Env→Prop
 | .exit i,e=>if i=id then Q .normal e else Q (.exit i) e
 | x,e=>Q x e

def pwp (Φ:Ask):PC→(PX→Env→Prop)→Env→Prop
 | .skip,Q,e=>Q .normal e
 | .fail,_,_=>False
 | .ss ps,Q,e=>∃ e',qB Φ ps e e'∧Q .normal e'
 | .seq a b,Q,e=>pwp Φ a (PX.then (pwp Φ b Q) Q) e
 | .cond c a b,Q,e=>(c.get e=[.bool true]∧pwp Φ a Q e)∨(c.get e=[.bool false]∧pwp Φ b Q e)
 | .block id a,Q,e=>pwp Φ a (PX.inBlock id Q) e
 | .loop a,Q,e=>∃ n:Nat,Nat.rec (motive:=fun _=>Env→Prop) (fun _=>False) (fun _ ih e=>pwp Φ a (PX.then ih Q) e) n e
 | .exit id,Q,e=>Q (.exit id) e
 | .ret rs,Q,e=>Q (.ret (rs.map e)) e

end
section

structure OI where
 leaf:Nat×Nat
 path:List (Nat×Nat)
 bound:Option Nat

abbrev Own:=Nat→Option OI

def claimed (own:Own)(g o:Nat):Prop:=∃ i b,own g=some i∧i.bound=some b∧b≤o

structure Cx where
 S1:Nat→Nat→Prop
 S2:Nat→Nat→Prop
 N:Nat→Prop

def RS (cx:Cx)(own:Own)(g o:Nat):Prop:=own g=none∧(cx.S1 g o∨cx.N g)
def BS (cx:Cx)(own:Own)(g o:Nat):Prop:=¬claimed own g o∧(cx.S2 g o∨cx.N g)

theorem aW {own:Own}{g o:Nat}(h:own g=none):¬claimed own g o:=by
 rintro ⟨i,b,hi,_⟩
 rw [h] at hi;cases hi

def wrapV:Bool→List Value→Value
 | true,vs=> .agg vs.toArray
 | false,[v]=>v
 | false,vs=> .agg vs.toArray

inductive Scal:D→Value→Prop
 | int (k:IntKind) (n:Int):Scal (.int k n) (.int k n)
 | bool (b:Bool):Scal (.bool b) (.bool b)
 | str (s:ByteArray):Scal (.str s) (.string s)

inductive Rep (w:World) (S:Nat→Nat→Prop):D→Value→Prop
 | scal {d:D} {v:Value}:Scal d v→Rep w S d v
 | nil (A:Option Addr) (cap:Nat):Rep w S (.sl []) (.slice A 0 cap)
 | sl (xs:List (List D)) (g off sz cap:Nat) (vs:Nat→Nat→Value):xs.length≤cap→(∀ x∈xs,x.length=sz)→
   (∀ (i:Nat) (x:List D) (j:Nat) (d:D),xs[i]? =some x→x[j]? =some d→w.cell? ⟨g,off+i*sz+j,none⟩=some (vs i j))→
   (∀ (i:Nat) (x:List D) (j:Nat) (d:D),xs[i]? =some x→x[j]? =some d→S g (off+i*sz+j))→
   (∀ (i:Nat) (x:List D) (j:Nat) (d:D),xs[i]? =some x→x[j]? =some d→Rep w S d (vs i j))→
   Rep w S (.sl xs) (.slice (some ⟨g,off,none⟩) xs.length cap)
 | fn (f:Nat) (fs:List (Bool×List D)) (cs:List (List D)) (fvs:List (List Value)) (bl:List Nat) (cvs:Nat→Nat→Value):
   fvs.length=fs.length→bl.length=cs.length→(∀ (i:Nat) (p:Bool×List D) (vs:List Value),fs[i]? =some p→fvs[i]? =some vs→vs.length=p.2.length∧(p.1=false→vs.length=1))→
   (∀ (i:Nat) (p:Bool×List D) (vs:List Value) (j:Nat) (d:D) (v:Value),fs[i]? =some p→fvs[i]? =some vs→p.2[j]? =some d→vs[j]? =some v→Rep w S d v)→
   (∀ (i:Nat) (c:List D) (g:Nat),cs[i]? =some c→bl[i]? =some g→∃ (cur:Array Value) (T:TypeId),w.heap[g]? =some (Obj.cells cur T (0,0))∧cur.size=c.length)→
   (∀ (i:Nat) (c:List D) (g j:Nat) (d:D),cs[i]? =some c→bl[i]? =some g→c[j]? =some d→w.cell? ⟨g,j,none⟩=some (cvs i j)∧S g j)→
   (∀ (i:Nat) (c:List D) (g j:Nat) (d:D),cs[i]? =some c→bl[i]? =some g→c[j]? =some d→Rep w S d (cvs i j))→
   Rep w S (.fn f fs cs) (.func (.func f) ((fs.zip fvs).map fun p=>wrapV p.1.1 p.2).toArray (bl.map fun g=>Value.pointer (some ⟨g,0,none⟩)).toArray)

inductive InRep (w:World) (own:Own) (lf:Nat×Nat) (m:Bool):List (Nat×Nat)→D→Value→Prop
 | scal {p:List (Nat×Nat)} {d:D} {v:Value}:Scal d v→InRep w own lf m p d v
 | nil (p:List (Nat×Nat)) (A:Option Addr) (cap:Nat):InRep w own lf m p (.sl []) (.slice A 0 cap)
 | sl (p:List (Nat×Nat)) (xs:List (List D)) (g sz cap:Nat) (cur:Array Value) (T:TypeId) (fr:Nat×Nat) (vs:Nat→Nat→Value):
   w.heap[g]? =some (Obj.cells cur T fr)→own g=some ⟨lf,p,if m then some 0 else none⟩→xs.length≤cap→
   (∀ o,o<xs.length*sz→(fr.1≤o&&o<fr.2)=false)→(∀ x∈xs,x.length=sz)→
   (∀ (i:Nat) (x:List D) (j:Nat) (d:D),xs[i]? =some x→x[j]? =some d→cur[i*sz+j]? =some (vs i j))→
   (∀ (i:Nat) (x:List D) (j:Nat) (d:D),xs[i]? =some x→x[j]? =some d→InRep w own lf m (p++[(i,j)]) d (vs i j))→
   InRep w own lf m p (.sl xs) (.slice (some ⟨g,0,none⟩) xs.length cap)

def ElRep (w:World)(cx:Cx)(own:Own)(lf:Nat×Nat)(m u:Bool)(i j:Nat)(d:D)(v:Value):Prop:=
 match u with
 | false=>Rep w (RS cx own) d v
 | true=>InRep w own lf m [(i,j)] d v

inductive OwnRep (w:World) (cx:Cx) (own:Own) (lf:Nat×Nat) (m:Bool) (f:Fz):D→Value→Prop
 | nil:OwnRep w cx own lf m f (.sl []) (.slice none 0 0)
 | sl (xs:List (List D)) (g cap:Nat) (cur:Array Value) (T:TypeId) (fr:Nat×Nat) (vs:Nat→Nat→Value):
   w.heap[g]? =some (Obj.cells cur T fr)→own g=some ⟨lf,[],if m then some 0 else some (xs.length*f.sz)⟩→xs.length≤cap→cap≤maxLen→cap*f.sz≤cur.size→
   (∀ o,(o<cap*f.sz∨1<f.sz)→(fr.1≤o&&o<fr.2)=false)→0<f.sz→
   (∀ x∈xs,x.length=f.sz)→
   (∀ (i:Nat) (x:List D) (j:Nat) (d:D),xs[i]? =some x→x[j]? =some d→cur[i*f.sz+j]? =some (vs i j))→
   (∀ (i:Nat) (x:List D) (j:Nat) (d:D),xs[i]? =some x→x[j]? =some d→ElRep w cx own lf m f.u i j d (vs i j))→
   OwnRep w cx own lf m f (.sl xs) (.slice (some ⟨g,0,none⟩) xs.length cap)
 /-- written in its place alone: nothing is known of the room behind it, nor of an element's size -/
 | ip (xs:List (List D)) (v:Value):f=⟨0,true⟩→InRep w own lf m [] (.sl xs) v→OwnRep w cx own lf m f (.sl xs) v

theorem InRep.map {w w':World}{own own':Own}{lf lf':Nat×Nat}{m m':Bool}{p:List (Nat×Nat)}{d:D}{v:Value}(h:InRep w own lf m p d v)(pre:List (Nat×Nat))(hp:p≠[])
  (hl:∀ g i,own g=some i→i.leaf=lf→i.path≠[]→i.bound=(if m then some 0 else none)→own' g=some ⟨lf',pre++i.path,if m' then some 0 else none⟩∧w'.heap[g]? =w.heap[g]?):InRep w' own' lf' m' (pre++p) d v:=by
 induction h with
 | scal h=>exact .scal h
 | nil p A cap=>exact .nil _ A cap
 | sl p xs g sz cap cur T fr vs h1 h2 h3 h4 h5 h6 h7 ih=>
  obtain ⟨a,b⟩:=hl g _ h2 rfl hp rfl
  exact .sl _ xs g sz cap cur T fr vs (b.trans h1) a h3 h4 h5 h6 (fun i x j d hx hj=>by rw [List.append_assoc];exact ih i x j d hx hj (by simp))

theorem InRep.re {w w':World}{own own':Own}{lf lf':Nat×Nat}{m:Bool}{p:List (Nat×Nat)}{d:D}{v:Value}(h:InRep w own lf m p d v):∀ (q:List (Nat×Nat)),
  (∀ g i r,own g=some i→i.leaf=lf→i.path=p++r→i.bound=(if m then some 0 else none)→own' g=some ⟨lf',q++r,if m then some 0 else none⟩∧w'.heap[g]? =w.heap[g]?)→InRep w' own' lf' m q d v:=by
 induction h with
 | scal h=>exact fun _ _=> .scal h
 | nil p A cap=>exact fun q _=> .nil q A cap
 | sl p xs g sz cap cur T fr vs h1 h2 h3 h4 h5 h6 h7 ih=>
  intro q hl
  obtain ⟨a,b⟩:=hl g _ [] h2 rfl (by simp) rfl
  rw [List.append_nil] at a
  exact .sl q xs g sz cap cur T fr vs (b.trans h1) a h3 h4 h5 h6 (fun i x j d hx hj=>ih i x j d hx hj _ (fun g' i' r h8 h9 h10 h11=>by
   have:=hl g' i' ((i,j)::r) h8 h9 (by rw [h10];simp) h11
   rw [List.append_assoc]
   exact this))

theorem InRep.slice {w:World}{own:Own}{lf:Nat×Nat}{m:Bool}{p:List (Nat×Nat)}{xs:List (List D)}{v:Value}(h:InRep w own lf m p (.sl xs) v):∃ A cap,v= .slice A xs.length cap∧(xs.length≤cap∨xs=[]):=by
 cases h with
 | scal h=>cases h
 | nil _ A cap=>exact ⟨A,cap,rfl,.inr rfl⟩
 | sl _ _ g sz cap cur T fr vs h1 h2 h3=>exact ⟨_,cap,rfl,.inl h3⟩

theorem InRep.keep {w w':World}{own own':Own}{lf lf':Nat×Nat}{m:Bool}{p:List (Nat×Nat)}{d:D}{v:Value}(h:InRep w own lf m p d v)
  (hl:∀ g i,own g=some i→i.leaf=lf→own' g=some {i with leaf:=lf' }∧w'.heap[g]? =w.heap[g]?):InRep w' own' lf' m p d v:=by
 induction h with
 | scal h=>exact .scal h
 | nil p A cap=>exact .nil _ A cap
 | sl p xs g sz cap cur T fr vs h1 h2 h3 h4 h5 h6 h7 ih=>
  obtain ⟨a,b⟩:=hl g _ h2 rfl
  exact .sl _ xs g sz cap cur T fr vs (b.trans h1) a h3 h4 h5 h6 ih

theorem InRep.rep {w w':World}{own:Own}{lf:Nat×Nat}{m:Bool}{p:List (Nat×Nat)}{d:D}{v:Value}{S:Nat→Nat→Prop}(h:InRep w own lf m p d v)
  (hS:∀ g i o,own g=some i→i.leaf=lf→i.bound=(if m then some 0 else none)→S g o∧w'.heap[g]? =w.heap[g]?):Rep w' S d v:=by
 induction h with
 | scal h=>exact .scal h
 | nil p A cap=>exact .nil A cap
 | sl p xs g sz cap cur T fr vs h1 h2 h3 h4 h5 h6 h7 ih=>
  refine .sl xs g 0 sz cap vs h3 h5 (fun i x j d hx hj=>?_) (fun i x j d hx hj=>(hS g _ _ h2 rfl rfl).1) ih
  simp only [World.cell?,(hS g _ 0 h2 rfl rfl).2,h1,Nat.zero_add]
  exact h6 i x j d hx hj

theorem Rep.mono {w w':World}{S S':Nat→Nat→Prop}{d:D}{v:Value}(h:Rep w S d v)
  (hc:∀ g o,S g o→w'.cell? ⟨g,o,none⟩=w.cell? ⟨g,o,none⟩)(hb:∀ (g:Nat) (cur:Array Value) (T:TypeId),w.heap[g]? =some (Obj.cells cur T (0,0))→∃ cur':Array Value,w'.heap[g]? =some (Obj.cells cur' T (0,0))∧cur'.size=cur.size)
  (hs:∀ g o,S g o→S' g o):Rep w' S' d v:=by
 induction h with
 | scal h=>exact .scal h
 | nil A cap=>exact .nil A cap
 | sl xs g off sz cap vs h1 h2 h3 h4 h5 ih=>
  exact .sl xs g off sz cap vs h1 h2 (fun i x j d hx hj=>by rw [hc _ _ (h4 i x j d hx hj)];exact h3 i x j d hx hj)
   (fun i x j d hx hj=>hs _ _ (h4 i x j d hx hj)) ih
 | fn f fs cs fvs bl cvs h1 h2 h3 h4 h5 h6 h7 ih1 ih2=>
  refine .fn f fs cs fvs bl cvs h1 h2 h3 ih1 (fun i c g hi hg=>?_) (fun i c g j d hi hg hj=>?_) ih2
  ·obtain ⟨cur,T,hh,hsz⟩:=h5 i c g hi hg
   obtain ⟨cur',hh',hsz'⟩:=hb g cur T hh
   exact ⟨cur',T,hh',by omega⟩
  ·obtain ⟨ha,hb'⟩:=h6 i c g j d hi hg hj
   exact ⟨by rw [hc _ _ hb'];exact ha,hs _ _ hb'⟩

structure Kept (own:Own) (w w':World):Prop where
 os:w'.os=w.os
 tape:w'.tape=w.tape
 output:w'.output=w.output
 size:w.heap.size≤w'.heap.size
 block:∀ g,g<w.heap.size→own g=none→w'.heap[g]? =w.heap[g]?
 cell:∀ g o,g<w.heap.size→¬claimed own g o→w'.cell? ⟨g,o,none⟩=w.cell? ⟨g,o,none⟩
 row:∀ (g:Nat) (cur:Array Value) (T:TypeId),w.heap[g]? =some (Obj.cells cur T (0,0))→∃ cur':Array Value,w'.heap[g]? =some (Obj.cells cur' T (0,0))∧cur'.size=cur.size

theorem Kept.refl (own:Own)(w:World):Kept own w w:=⟨rfl,rfl,rfl,Nat.le_refl _,fun _ _ _=>rfl,fun _ _ _ _=>rfl,fun _ cur _ h=>⟨cur,h,rfl⟩⟩

theorem nL {w:World}{g o:Nat}{v:Value}(h:w.cell? ⟨g,o,none⟩=some v):g<w.heap.size:=by
 rcases Nat.lt_or_ge g w.heap.size with h' | h'
 ·exact h'
 ·simp [World.cell?,Array.getElem?_eq_none h'] at h

theorem DB {w:World}{g:Nat}{o:Obj}(h:w.heap[g]? =some o):g<w.heap.size:=by
 rcases Nat.lt_or_ge g w.heap.size with h' | h'
 ·exact h'
 ·simp [Array.getElem?_eq_none h'] at h

theorem bM {w:World}{g o:Nat}{cur:Array Value}{T:TypeId}{fr:Nat×Nat}(h:w.heap[g]? =some (Obj.cells cur T fr)):w.cell? ⟨g,o,none⟩=cur[o]? :=by
 simp [World.cell?,h]

end
section

def Cell1 (v:Value):Prop:=(∀ c,v≠ .agg c)∧(∀ c,v≠ .tuple c)

def All3 (P:Nat→CS→D→Value→Prop)(cs:List CS)(ds:List D)(vs:List Value):Prop:=
 cs.length=ds.length∧vs.length=ds.length∧∀ (i:Nat) (c:CS) (d:D) (v:Value),cs[i]? =some c→ds[i]? =some d→vs[i]? =some v→P i c d v

def CellIs (w:World)(cx:Cx)(own:Own)(s i:Nat)(c:CS)(d:D)(v:Value):Prop:=
 match c with
 | .n=>d= .sl []∧v= .slice none 0 0
 | .s=>Scal d v
 | .r=>Rep w (RS cx own) d v
 | .b=>Rep w (BS cx own) d v
 | .o m f=>OwnRep w cx own (s,i+1) m f d v
 | .al h k m f=>OwnRep w cx own (h,k+1) m f d v
 | .x=>True

def aS (w:World)(cx:Cx)(own:Own)(s i:Nat)(c:CS)(d:D)(v:Value):Prop:=Cell1 v∧CellIs w cx own s i c d v

def HV (cx:Cx)(own:Own)(deps:List Nat)(g o:Nat):Prop:=BS cx own g o∨∃ i,own g=some i∧i.leaf.1∈deps

def SlotOk (w:World)(cx:Cx)(own:Own)(env:Env)(tv:Nat→Value)(s:Nat):Sh→Prop
 | .dead=>True
 | .v a cs=>∃ vs,tv s=wrapV a vs∧(a=false→vs.length=1)∧All3 (aS w cx own s) cs (env s) vs
 | .box ro cs=>∃ (g:Nat) (cur:Array Value) (T:TypeId),tv s= .pointer (some ⟨g,0,none⟩)∧w.heap[g]? =some (Obj.cells cur T (0,0))∧All3 (aS w cx own s) cs (env s) cur.toList∧
   (if ro then (own g=none∧(∀ j,j<cur.size→cx.S2 g j∨cx.N g)∧∀ c∈cs,c= .s∨c= .b∨c= .x) else own g=some ⟨(s,0),[],some 0⟩)
 | .pt b off=>∃ g,tv b= .pointer (some ⟨g,0,none⟩)∧tv s= .pointer (some ⟨g,off,none⟩)
 | .el c off=>∃ (xs:List (List D)) (k:IntKind) (n:Int) (g o0 sz len cap:Nat),env s=[.sl xs,.int k n]∧0≤n∧n.toNat<xs.length∧(∀ x∈xs,x.length=sz)∧(∀ m f,c≠ .o m f)∧
   aS w cx own s 0 c (.sl xs) (.slice (some ⟨g,o0,none⟩) len cap)∧tv s= .pointer (some ⟨g,o0+n.toNat*sz+off,none⟩)
 | .bx b es off=>∃ (k:IntKind) (n:Int) (g:Nat),env s=[.int k n]∧0≤n∧tv b= .pointer (some ⟨g,0,none⟩)∧tv s= .pointer (some ⟨g,n.toNat*es+off,none⟩)
 | .clo f deps=>∃ fs cs,env s=[.fn f fs cs]∧Rep w (HV cx own deps) (.fn f fs cs) (tv s)
 | .tup ps=>∃ vss:List (List Value),tv s= .tuple (List.zipWith (fun p vs=>wrapV p.1 vs) ps vss).toArray∧vss.length=ps.length∧
   (∀ (i:Nat) (p:Bool×List CS) (vs:List Value),ps[i]? =some p→vss[i]? =some vs→vs.length=p.2.length∧(p.1=false→vs.length=1))∧
   All3 (aS w cx own s) (ps.flatMap (·.2)) (env s) vss.flatten
 | .ld p h i=>∃ (g off:Nat) (v:Value),tv s=v∧tv p= .pointer (some ⟨g,off,none⟩)∧own g=some ⟨(h,i+1),[],some 0⟩∧w.cell? ⟨g,off,none⟩=some v
 | .opt g b sh=>(env g=[.bool b]→SlotOk w cx own env tv s sh)∧(env g≠[.bool b]→tv s=undef∧env s=[])

structure Step (cx:Cx) (own:Own) (w:World) (env:Env) (tv:Nat→Value) (A:Nat×Nat→Prop) (W:Nat→Prop) (d:Option Nat)
  (own':Own) (w':World) (env':Env) (tv':Nat→Value):Prop where
 kept:Kept own w w'
 none':∀ g,g<w.heap.size→own g=none→own' g=none
 unc:∀ g o,g<w.heap.size→¬claimed own g o→¬claimed own' g o
 lab:∀ g i,own g=some i→¬A i.leaf→own' g=some i∧w'.heap[g]? =w.heap[g]?
 new:∀ g i,own' g=some i→g<w'.heap.size∧cx.N g
 inj:∀ g g' i j,own' g=some i→own' g'=some j→i.leaf=j.leaf→i.path=j.path→g=g'
 env:∀ s,¬W s→env' s=env s
 tv:∀ s,d≠some s→tv' s=tv s

structure WOk (w0:World) (own0:Own) (cx:Cx) (own:Own) (w:World):Prop where
 kept:Kept own0 w0 w
 dom:∀ g i,own g=some i→g<w.heap.size∧cx.N g
 n:∀ g,cx.N g↔(w0.heap.size≤g∨own0 g≠none)
 s1:∀ g o,cx.S1 g o→cx.S2 g o
 s2:∀ g o,cx.S2 g o→g<w0.heap.size∧¬claimed own0 g o
 cl:∀ g o,g<w0.heap.size→claimed own g o→claimed own0 g o
 inj:∀ g g' i j,own g=some i→own g'=some j→i.leaf=j.leaf→i.path=j.path→g=g'

theorem Kept.trans0 {own0 own:Own}{cx:Cx}{w0 w w':World}(h:WOk w0 own0 cx own w)(k:Kept own w w'):Kept own0 w0 w':=by
 have hk:=h.kept
 refine ⟨k.os.trans hk.os,k.tape.trans hk.tape,k.output.trans hk.output,Nat.le_trans hk.size k.size,fun g hg h0=>?_,fun g o hg h0=>?_,fun g cur T hg=>?_⟩
 ·have hn:own g=none:=by
   cases ho:own g with
   | none=>rfl
   | some i=>
    rcases (h.n g).1 (h.dom g i ho).2 with h1 | h1
    ·omega
    ·exact absurd h0 h1
  rw [k.block g (Nat.lt_of_lt_of_le hg hk.size) hn,hk.block g hg h0]
 ·rw [k.cell g o (Nat.lt_of_lt_of_le hg hk.size) (fun hc=>h0 (h.cl g o hg hc)),hk.cell g o hg h0]
 ·obtain ⟨c1,h1,s1⟩:=hk.row g cur T hg
  obtain ⟨c2,h2,s2⟩:=k.row g c1 T h1
  exact ⟨c2,h2,s2.trans s1⟩

theorem WOk.step {w0:World}{own0:Own}{cx:Cx}{own own':Own}{w w':World}{env env':Env}{tv tv':Nat→Value}{A:Nat×Nat→Prop}{W:Nat→Prop}{d:Option Nat}
  (h:WOk w0 own0 cx own w)(st:Step cx own w env tv A W d own' w' env' tv'):WOk w0 own0 cx own' w' where
 kept:=Kept.trans0 h st.kept
 dom:=st.new
 n:=h.n
 s1:=h.s1
 s2:=h.s2
 cl:=fun g o hg hc=>by
  rcases Classical.em (claimed own g o) with h1 | h1
  ·exact h.cl g o hg h1
  ·exact absurd hc (st.unc g o (Nat.lt_of_lt_of_le hg h.kept.size) h1)
 inj:=st.inj

theorem Rep.in_ {w w':World}{S S':Nat→Nat→Prop}{d:D}{v:Value}(h:Rep w S d v)
  (hc:∀ g o u,S g o→w.cell? ⟨g,o,none⟩=some u→w'.cell? ⟨g,o,none⟩=some u)(hb:∀ (g:Nat) (cur:Array Value) (T:TypeId),w.heap[g]? =some (Obj.cells cur T (0,0))→∃ cur':Array Value,w'.heap[g]? =some (Obj.cells cur' T (0,0))∧cur'.size=cur.size)
  (hs:∀ g o u,S g o→w.cell? ⟨g,o,none⟩=some u→S' g o):Rep w' S' d v:=by
 induction h with
 | scal h=>exact .scal h
 | nil A cap=>exact .nil A cap
 | sl xs g off sz cap vs h1 h2 h3 h4 h5 ih=>
  exact .sl xs g off sz cap vs h1 h2 (fun i x j d hx hj=>hc _ _ _ (h4 i x j d hx hj) (h3 i x j d hx hj))
   (fun i x j d hx hj=>hs _ _ _ (h4 i x j d hx hj) (h3 i x j d hx hj)) ih
 | fn f fs cs fvs bl cvs h1 h2 h3 h4 h5 h6 h7 ih1 ih2=>
  refine .fn f fs cs fvs bl cvs h1 h2 h3 ih1 (fun i c g hi hg=>?_) (fun i c g j d hi hg hj=>?_) ih2
  ·obtain ⟨cur,T,hh,hsz⟩:=h5 i c g hi hg
   obtain ⟨cur',hh',hsz'⟩:=hb g cur T hh
   exact ⟨cur',T,hh',by omega⟩
  ·obtain ⟨ha,hb'⟩:=h6 i c g j d hi hg hj
   exact ⟨hc _ _ _ hb' ha,hs _ _ _ hb' ha⟩

section step
variable {cx:Cx}{own own':Own}{w w':World}{env env':Env}{tv tv':Nat→Value}{A:Nat×Nat→Prop}{W:Nat→Prop}{dd:Option Nat}

theorem Step.rs (st:Step cx own w env tv A W dd own' w' env' tv'){d:D}{v:Value}(h:Rep w (RS cx own) d v):Rep w' (RS cx own') d v:=
 h.in_ (fun g o u hs hc=>by rw [st.kept.cell g o (nL hc) (aW hs.1)];exact hc) st.kept.row
  (fun g o u hs hc=>⟨st.none' g (nL hc) hs.1,hs.2⟩)

theorem Step.bs (st:Step cx own w env tv A W dd own' w' env' tv'){d:D}{v:Value}(h:Rep w (BS cx own) d v):Rep w' (BS cx own') d v:=
 h.in_ (fun g o u hs hc=>by rw [st.kept.cell g o (nL hc) hs.1];exact hc) st.kept.row
  (fun g o u hs hc=>⟨st.unc g o (nL hc) hs.1,hs.2⟩)

theorem Step.ownr (st:Step cx own w env tv A W dd own' w' env' tv'){lf:Nat×Nat}(hA:¬A lf){m:Bool}{f:Fz}{d:D}{v:Value}(h:OwnRep w cx own lf m f d v):OwnRep w' cx own' lf m f d v:=by
 cases h with
 | nil=>exact .nil
 | sl xs g cap cur T fr vs h1 h2 h3 h4 h5 h6 h7 h8 h9 h10=>
  obtain ⟨a,b⟩:=st.lab g _ h2 hA
  refine .sl xs g cap cur T fr vs (b.trans h1) a h3 h4 h5 h6 h7 h8 h9 (fun i x j d hx hj=>?_)
  have h11:=h10 i x j d hx hj
  obtain ⟨sz,u⟩:=f
  cases u with
  | false=>exact st.rs h11
  | true=>exact InRep.keep h11 (fun g i hi hl=>by obtain ⟨c,e⟩:=st.lab g i hi (by rw [hl];exact hA);exact ⟨by rw [c,←hl],e⟩)
 | ip xs v hf h1=>exact .ip xs v hf (InRep.keep h1 (fun g i hi hl=>by obtain ⟨c,e⟩:=st.lab g i hi (by rw [hl];exact hA);exact ⟨by rw [c,←hl],e⟩))

theorem Step.cset (st:Step cx own w env tv A W dd own' w' env' tv'){deps:List Nat}(hA:∀ lf,lf.1∈deps→¬A lf){d:D}{v:Value}(h:Rep w (HV cx own deps) d v):Rep w' (HV cx own' deps) d v:=
 h.in_ (fun g o u hs hc=>by
   rcases hs with hs | ⟨i,hi,hd⟩
   ·rw [st.kept.cell g o (nL hc) hs.1];exact hc
   ·have hb:=(st.lab g i hi (hA _ hd)).2
    have:w'.cell? ⟨g,o,none⟩=w.cell? ⟨g,o,none⟩:=by simp [World.cell?,hb]
    rw [this];exact hc) st.kept.row
  (fun g o u hs hc=>by
   rcases hs with hs | ⟨i,hi,hd⟩
   ·exact .inl ⟨st.unc g o (nL hc) hs.1,hs.2⟩
   ·exact .inr ⟨i,(st.lab g i hi (hA _ hd)).1,hd⟩)

end step

end
section

theorem vO (f:Nat→CS→CS):∀ (cs:List CS) (n i:Nat),(mapi f n cs)[i]? =(cs[i]?).map (f (n+i))
 | [],n,i=>by simp [mapi]
 | c::r,n,0=>by simp [mapi]
 | c::r,n,i+1=>by
  simp only [mapi,List.getElem?_cons_succ]
  rw [vO f r (n+1) i]
  congr 2
  omega

theorem zW (f:Nat→CS→CS):∀ (cs:List CS) (n:Nat),(mapi f n cs).length=cs.length
 | [],_=>rfl
 | _::r,n=>by simp [mapi,zW f r]

theorem FD (f:Nat→CS→CS):∀ (a b:List CS) (n:Nat),mapi f n (a++b)=mapi f n a++mapi f (n+a.length) b
 | [],b,n=>by simp [mapi]
 | c::r,b,n=>by
  simp only [List.cons_append,mapi,FD f r b (n+1),List.length_cons]
  congr 3
  omega

theorem Bd (f:Nat→CS→CS):∀ (ps:List (Bool×List CS)) (n:Nat),(rP f n ps).flatMap (·.2)=mapi f n (ps.flatMap (·.2))
 | [],_=>rfl
 | (a,cs)::r,n=>by simp only [rP,List.flatMap_cons,FD,Bd f r]

theorem DC (f:Nat→CS→CS):∀ (ps:List (Bool×List CS)) (n:Nat),(rP f n ps).length=ps.length
 | [],_=>rfl
 | (_,_)::r,n=>by simp [rP,DC f r]

theorem zX (f:Nat→CS→CS):∀ (ps:List (Bool×List CS)) (n i:Nat) (q:Bool×List CS),(rP f n ps)[i]? =some q→∃ p,ps[i]? =some p∧q.1=p.1∧q.2.length=p.2.length
 | [],_,_,_,h=>by simp [rP] at h
 | (a,cs)::r,n,0,q,h=>by
  simp only [rP,List.getElem?_cons_zero,Option.some.injEq] at h
  subst h
  exact ⟨(a,cs),rfl,rfl,zW _ _ _⟩
 | (a,cs)::r,n,i+1,q,h=>by
  simp only [rP,List.getElem?_cons_succ] at h
  obtain ⟨p,h1,h2⟩:=zX f r _ i q h
  exact ⟨p,by simpa using h1,h2⟩

theorem Be (f:Nat→CS→CS):∀ (ps:List (Bool×List CS)) (vss:List (List Value)) (n:Nat),List.zipWith (fun p vs=>wrapV p.1 vs) (rP f n ps) vss=List.zipWith (fun p vs=>wrapV p.1 vs) ps vss
 | [],vss,_=>by simp [rP]
 | (a,cs)::r,[],n=>by simp [rP]
 | (a,cs)::r,v::vss,n=>by simp [rP,Be f r vss]

theorem All3.mapi {P P':Nat→CS→D→Value→Prop}{f:Nat→CS→CS}{cs:List CS}{ds:List D}{vs:List Value}(h:All3 P cs ds vs)
  (hp:∀ i c d v,P i c d v→P' i (f i c) d v):All3 P' (V.mapi f 0 cs) ds vs:=by
 refine ⟨by rw [zW];exact h.1,h.2.1,fun i c d v hc hd hv=>?_⟩
 rw [vO,Nat.zero_add] at hc
 cases hci:cs[i]? with
 | none=>rw [hci] at hc;simp at hc
 | some c0=>
  rw [hci] at hc
  simp only [Option.map_some,Option.some.injEq] at hc
  subst hc
  exact hp i c0 d v (h.2.2 i c0 d v hci hd hv)

theorem All3.imp {P P':Nat→CS→D→Value→Prop}{cs:List CS}{ds:List D}{vs:List Value}(h:All3 P cs ds vs)(hp:∀ i c d v,P i c d v→P' i c d v):All3 P' cs ds vs:=
 ⟨h.1,h.2.1,fun i c d v hc hd hv=>hp i c d v (h.2.2 i c d v hc hd hv)⟩

def Up.A (u:Up)(lf:Nat×Nat):Prop:=u.isDst lf.1=true∨(∃ p∈u.bx,p.1=lf.1∧lf.2=0)∨(∃ i,lf.2=i+1∧((u.find lf.1 i).isSome=true∨u.isTo lf.1 i=true))

def Up.W (u:Up)(s:Nat):Prop:=u.isDst s=true∨∃ p∈u.bx,p.1=s

def Up.d (u:Up):Option Nat:=u.dst.map (·.1)

theorem Up.isDst_iff {u:Up}{z:Nat}:u.isDst z=true↔u.d=some z:=by
 unfold Up.isDst Up.d
 cases u.dst with
 | none=>simp
 | some p=>
  obtain ⟨d,sh⟩:=p
  simp only [Option.map_some,Option.some.injEq]
  constructor
  ·intro h;exact (Nat.eq_of_beq_eq_true h).symm
  ·intro h;subst h;exact Nat.beq_refl _

def Inv (S:St)(w:World)(cx:Cx)(own:Own)(env:Env)(tv:Nat→Value):Prop:=∀ p∈S,SlotOk w cx own env tv p.1 p.2

theorem Inv.look {S:St}{w:World}{cx:Cx}{own:Own}{env:Env}{tv:Nat→Value}(h:Inv S w cx own env tv)(z:Nat):SlotOk w cx own env tv z (V.look S z):=by
 unfold Inv at h
 induction S with
 | nil=>exact trivial
 | cons p r ih=>
  obtain ⟨k,sh⟩:=p
  simp only [V.look]
  cases hb:Nat.beq z k with
  | true=>
   have:z=k:=Nat.eq_of_beq_eq_true hb
   subst this
   exact h (z,sh) (List.mem_cons_self ..)
  | false=>exact ih (fun p hp=>h p (List.mem_cons_of_mem _ hp))

section
variable {cx:Cx}{own own':Own}{w w':World}{env env':Env}{tv tv':Nat→Value}{u:Up}

structure AffOk (cx:Cx) (own:Own) (w:World) (u:Up) (own':Own) (w':World):Prop where
 no:∀ a∈u.aff,∀ m f,a.to≠ .o m f
 to:∀ a∈u.aff,∀ x v,OwnRep w cx own (a.h,a.i+1) a.m a.f x v→∀ s i,CellIs w' cx own' s i a.to x v
 ow:∀ a∈u.aff,¬u.W a.h→∀ x v,OwnRep w cx own (a.h,a.i+1) a.m a.f x v→CellIs w' cx own' a.h a.i a.own x v
 drop:∀ h i,u.isDst h=true→u.find h i=none→∀ m f x v,OwnRep w cx own (h,i+1) m f x v→Rep w' (RS cx own') x v

theorem bC {a b:Bool}:Bb a b=true↔a=b:=by cases a<;>cases b<;>simp [Bb]

theorem pO {a b:Fz}:Lb a b=true↔a=b:=by
 obtain ⟨s,u⟩:=a
 obtain ⟨t,v⟩:=b
 simp only [Lb,Bool.and_eq_true,bC,Fz.mk.injEq]
 exact ⟨fun h=>⟨Nat.eq_of_beq_eq_true h.1,h.2⟩,fun h=>⟨by rw [h.1];exact Nat.beq_refl _,h.2⟩⟩

theorem Wb {a b:Bool}{c d:Fz}(h:(Bb a b&&Lb c d)=true):a=b∧c=d:=by
 simp only [Bool.and_eq_true] at h
 exact ⟨bC.1 h.1,pO.1 h.2⟩

theorem bP {a b:Leaf}:gP a b=true↔a=b:=by
 unfold gP
 simp only [Bool.and_eq_true]
 constructor
 ·intro h;exact Prod.ext (Nat.eq_of_beq_eq_true h.1) (Nat.eq_of_beq_eq_true h.2)
 ·rintro rfl;exact ⟨Nat.beq_refl _,Nat.beq_refl _⟩

theorem Up.find_some {u:Up}{h i:Nat}{a:Aff}(hf:u.find h i=some a):a∈u.aff∧a.h=h∧a.i=i:=by
 unfold Up.find at hf
 have h1:=List.mem_of_find?_eq_some hf
 have h2:=List.find?_some hf
 simp only [Bool.and_eq_true] at h2
 exact ⟨h1,Nat.eq_of_beq_eq_true h2.1,Nat.eq_of_beq_eq_true h2.2⟩

theorem Az (st:Step cx own w env tv u.A u.W u.d own' w' env' tv')(af:AffOk cx own w u own' w'){z i:Nat}(hz:¬u.W z){c:CS}{d:D}{v:Value}
  (h:aS w cx own z i c d v):aS w' cx own' z i (u.cell z i c) d v:=by
 refine ⟨h.1,?_⟩
 have h2:=h.2
 have hzd:u.isDst z=false:=by
  cases hb:u.isDst z with
  | false=>rfl
  | true=>exact absurd (.inl hb) hz
 cases c with
 | n=>exact h2
 | s=>exact h2
 | r=>exact st.rs h2
 | b=>exact st.bs h2
 | x=>trivial
 | o m f=>
  simp only [Up.cell]
  cases hf:u.find z i with
  | some a=>
   obtain ⟨h3,h4,h5⟩:=Up.find_some hf
   dsimp only
   cases hb:(Bb m a.m&&Lb f a.f) with
   | false=>trivial
   | true=>
    obtain ⟨rfl,rfl⟩:=Wb hb
    have:=af.ow a h3 (by rw [h4];exact hz) d v (by rw [h4,h5];exact h2)
    rw [h4,h5] at this
    exact this
  | none=>
   dsimp only
   cases ht:u.isTo z i with
   | true=>trivial
   | false=>
    refine st.ownr (f:=f) ?_ h2
    rintro (h3 | ⟨p,_,_,h3⟩ | ⟨j,h3,h4⟩)
    ·simp only at h3;rw [hzd] at h3;cases h3
    ·simp at h3
    ·simp only [Nat.add_right_cancel_iff] at h3
     subst h3
     simp only at h4
     rw [hf,ht] at h4
     rcases h4 with h4 | h4<;>cases h4
 | al hh k m f=>
  simp only [Up.cell]
  cases hf:u.find hh k with
  | some a=>
   obtain ⟨h3,h4,h5⟩:=Up.find_some hf
   dsimp only
   cases hb:(Bb m a.m&&Lb f a.f) with
   | false=>trivial
   | true=>
    obtain ⟨rfl,rfl⟩:=Wb hb
    exact af.to a h3 d v (by rw [h4,h5];exact h2) z i
  | none=>
   dsimp only
   cases hb:u.isDst hh with
   | true=>exact af.drop hh k hb hf m f d v h2
   | false=>
    cases ht:u.isTo hh k with
    | true=>trivial
    | false=>
     refine st.ownr (f:=f) ?_ h2
     rintro (h3 | ⟨p,_,_,h3⟩ | ⟨j,h3,h4⟩)
     ·simp only at h3;rw [hb] at h3;cases h3
     ·simp at h3
     ·simp only [Nat.add_right_cancel_iff] at h3
      subst h3
      simp only at h4
      rw [hf,ht] at h4
      rcases h4 with h4 | h4<;>cases h4

theorem ZE {u:Up}{lf:Nat×Nat}(hn:u.hit lf.1=false):¬u.A lf:=by
 intro hA
 unfold Up.hit at hn
 simp only [Bool.or_eq_false_iff] at hn
 rcases hA with h3 | ⟨p,hp,h3,_⟩ | ⟨i,h3,h4⟩
 ·rw [h3] at hn;simp at hn
 ·have:=List.any_eq_false.1 hn.1.2 p hp
  rw [h3] at this
  exact this (Nat.beq_refl _)
 ·rcases h4 with h4 | h4
  ·obtain ⟨a,ha⟩:=Option.isSome_iff_exists.1 h4
   obtain ⟨h5,h6,_⟩:=Up.find_some ha
   have:=List.any_eq_false.1 hn.2 a h5
   rw [h6] at this
   simp at this
  ·obtain ⟨a,ha,hto⟩:=List.any_eq_true.1 h4
   have:=List.any_eq_false.1 hn.2 a ha
   unfold CS.isTo at hto
   split at hto
   ·rename_i h' i' _ _ heq
    simp only [Bool.and_eq_true] at hto
    rw [heq] at this
    simp only [CS.toSlot,hto.1,Bool.or_true] at this
    exact this trivial
   ·cases hto

theorem KS (st:Step cx own w env tv u.A u.W u.d own' w' env' tv')(af:AffOk cx own w u own' w'){z:Nat}(hz:¬u.W z):
  ∀ {sh:Sh},SlotOk w cx own env tv z sh→SlotOk w' cx own' env' tv' z (u.map z sh):=by
 have hzd:u.isDst z=false:=by
  cases hb:u.isDst z with
  | false=>rfl
  | true=>exact absurd (.inl hb) hz
 have htv:∀ s,u.isDst s=false→tv' s=tv s:=fun s hs=>st.tv s (fun hd=>by rw [Up.isDst_iff.2 hd] at hs;cases hs)
 have hte:=st.env z hz
 intro sh
 induction sh with
 | dead=>intro _;trivial
 | v a cs=>
  rintro ⟨vs,h1,h2,h3⟩
  exact ⟨vs,(htv z hzd).trans h1,h2,by rw [hte];exact h3.mapi (fun i c d v h=>Az st af hz h)⟩
 | box ro cs=>
  rintro ⟨g,cur,T,h1,h2,h3,h4⟩
  have hh:w'.heap[g]? =w.heap[g]? ∧(own g=none→own' g=none)∧(own g=some ⟨(z,0),[],some 0⟩→own' g=some ⟨(z,0),[],some 0⟩):=by
   cases ro with
   | true=>
    simp only [if_true] at h4
    exact ⟨st.kept.block g (DB h2) h4.1,fun _=>st.none' g (DB h2) h4.1,(fun h=>by rw [h4.1] at h;cases h)⟩
   | false=>
    simp only [Bool.false_eq_true,if_false] at h4
    have hA:¬u.A (z,0):=by
     rintro (h5 | ⟨p,hp,h5,_⟩ | ⟨j,h5,_⟩)
     ·simp only at h5;rw [hzd] at h5;cases h5
     ·exact hz (.inr ⟨p,hp,h5⟩)
     ·simp at h5
    obtain ⟨ha,hb⟩:=st.lab g _ h4 hA
    exact ⟨hb,(fun h=>by rw [h4] at h;cases h),fun _=>ha⟩
  refine ⟨g,cur,T,(htv z hzd).trans h1,hh.1.trans h2,by rw [hte];exact h3.mapi (fun i c d v h=>Az st af hz h),?_⟩
  cases ro with
  | true=>
   simp only [if_true] at h4 ⊢
   refine ⟨hh.2.1 h4.1,h4.2.1,fun c hc=>?_⟩
   obtain ⟨i,hi⟩:=List.getElem?_of_mem hc
   rw [vO] at hi
   cases hci:cs[i]? with
   | none=>rw [hci] at hi;simp at hi
   | some c0=>
    rw [hci] at hi
    simp only [Option.map_some,Option.some.injEq] at hi
    rcases h4.2.2 c0 (List.mem_of_getElem? hci) with h5 | h5 | h5<;>subst h5<;>simp only [Up.cell] at hi<;>subst hi<;>simp
  | false=>
   simp only [Bool.false_eq_true,if_false] at h4 ⊢
   exact hh.2.2 h4
 | pt b off=>
  rintro ⟨g,h1,h2⟩
  simp only [Up.map]
  cases hb:u.isDst b with
  | true=>trivial
  | false=>exact ⟨g,(htv b hb).trans h1,(htv z hzd).trans h2⟩
 | el c off=>
  rintro ⟨xs,k,n,g,o0,sz,len,cap,h1,h2,h3,h4,h5,h6,h7⟩
  refine ⟨xs,k,n,g,o0,sz,len,cap,hte.trans h1,h2,h3,h4,fun m f=>?_,Az st af hz h6,(htv z hzd).trans h7⟩
  cases c<;>simp only [Up.cell,ne_eq,reduceCtorEq,not_false_eq_true]
  ·exact absurd rfl (h5 _ _)
  ·split
   ·rename_i a hf
    split
    ·exact af.no a (Up.find_some hf).1 m f
    ·simp
   ·split
    ·simp
    ·split<;>simp
 | bx b es off=>
  rintro ⟨k,n,g,h1,h2,h3,h4⟩
  simp only [Up.map]
  cases hb:u.isDst b with
  | true=>trivial
  | false=>exact ⟨k,n,g,hte.trans h1,h2,(htv b hb).trans h3,(htv z hzd).trans h4⟩
 | clo f deps=>
  rintro ⟨fs,cs,h1,h2⟩
  simp only [Up.map]
  cases hb:deps.any u.hit with
  | true=>trivial
  | false=>
   refine ⟨fs,cs,hte.trans h1,?_⟩
   rw [htv z hzd]
   refine st.cset (fun lf hlf hA=>?_) h2
   have hn:u.hit lf.1=false:=by
    cases hh:u.hit lf.1 with
    | false=>rfl
    | true=>
     have:deps.any u.hit=true:=List.any_eq_true.2 ⟨lf.1,hlf,hh⟩
     rw [hb] at this;cases this
   unfold Up.hit at hn
   simp only [Bool.or_eq_false_iff] at hn
   rcases hA with h3 | ⟨p,hp,h3,_⟩ | ⟨i,h3,h4⟩
   ·rw [h3] at hn;simp at hn
   ·have:=List.any_eq_false.1 hn.1.2 p hp
    rw [h3] at this
    exact this (Nat.beq_refl _)
   ·rcases h4 with h4 | h4
    ·obtain ⟨a,ha⟩:=Option.isSome_iff_exists.1 h4
     obtain ⟨h5,h6,_⟩:=Up.find_some ha
     have:=List.any_eq_false.1 hn.2 a h5
     rw [h6] at this
     simp at this
    ·obtain ⟨a,ha,hto⟩:=List.any_eq_true.1 h4
     have:=List.any_eq_false.1 hn.2 a ha
     unfold CS.isTo at hto
     split at hto
     ·rename_i h' i' _ _ heq
      simp only [Bool.and_eq_true] at hto
      rw [heq] at this
      simp only [CS.toSlot,hto.1,Bool.or_true] at this
      exact this trivial
     ·cases hto
 | ld p h i=>
  rintro ⟨g,off,v,h1,h2,h3,h4⟩
  simp only [Up.map]
  cases hb:(u.isDst p||u.hit h) with
  | true=>trivial
  | false=>
   simp only [Bool.or_eq_false_iff] at hb
   obtain ⟨h5,h6⟩:=st.lab g _ h3 (ZE hb.2)
   refine ⟨g,off,v,(htv z hzd).trans h1,(htv p hb.1).trans h2,h5,?_⟩
   have:w'.cell? ⟨g,off,none⟩=w.cell? ⟨g,off,none⟩:=by simp [World.cell?,h6]
   rw [this];exact h4
 | tup ps=>
  rintro ⟨vss,h1,h2,h3,h4⟩
  refine ⟨vss,?_,?_,?_,?_⟩
  ·rw [Be];exact (htv z hzd).trans h1
  ·rw [DC];exact h2
  ·intro i q vs hq hv
   obtain ⟨p,hp,h5,h6⟩:=zX _ _ _ _ _ hq
   obtain ⟨h7,h8⟩:=h3 i p vs hp hv
   exact ⟨h7.trans h6.symm,fun h=>h8 (h5▸h)⟩
  ·rw [Bd,hte]
   exact h4.mapi (fun i c d v h=>Az st af hz h)
 | opt g b sh ih=>
  rintro ⟨h1,h2⟩
  simp only [Up.map]
  cases hb:(u.isDst g||u.bx.any (fun p=>Nat.beq p.1 g)) with
  | true=>trivial
  | false=>
   simp only [Bool.or_eq_false_iff] at hb
   have hg:¬u.W g:=by
    rintro (h3 | ⟨p,hp,h3⟩)
    ·rw [hb.1] at h3;cases h3
    ·have:=List.any_eq_false.1 hb.2 p hp
     rw [h3] at this
     exact this (Nat.beq_refl _)
   have heg:=st.env g hg
   refine ⟨fun h=>ih (h1 (heg▸h)),fun h=>?_⟩
   obtain ⟨h3,h4⟩:=h2 (heg▸h)
   exact ⟨(htv z hzd).trans h3,hte.trans h4⟩

theorem Inv.runs {S:St}(hS:Inv S w cx own env tv)(st:Step cx own w env tv u.A u.W u.d own' w' env' tv')(af:AffOk cx own w u own' w')
  (hb:∀ p∈u.bx,u.isDst p.1=false→SlotOk w' cx own' env' tv' p.1 p.2):Inv (u.runs S) w' cx own' env' tv':=by
 unfold Inv at *
 induction S with
 | nil=>intro p hp;simp [Up.runs] at hp
 | cons p r ih=>
  obtain ⟨z,sh⟩:=p
  intro q hq
  simp only [Up.runs,List.mem_cons] at hq
  rcases hq with rfl | hq
  ·simp only [Up.at]
   cases hd:u.isDst z with
   | true=>trivial
   | false=>
    cases hl:u.bx.lookup z with
    | some nsh=>
     have:(z,nsh)∈u.bx:=by
      clear ih hS st af hb
      generalize u.bx=l at hl
      induction l with
      | nil=>simp at hl
      | cons a l ih=>
       obtain ⟨k,s⟩:=a
       rw [List.lookup_cons] at hl
       cases hk:z==k with
       | true=>
        rw [hk] at hl
        simp only [Option.some.injEq] at hl
        have:z=k:=by simpa using hk
        subst this;subst hl
        exact List.mem_cons_self ..
       | false=>rw [hk] at hl;exact List.mem_cons_of_mem _ (ih hl)
     exact hb _ this hd
    | none=>
     refine KS st af ?_ (hS (z,sh) (List.mem_cons_self ..))
     rintro (h3 | ⟨p,hp,h3⟩)
     ·rw [hd] at h3;cases h3
     ·clear ih hS st af hb
      subst h3
      generalize u.bx=l at hl hp
      induction l with
      | nil=>simp at hp
      | cons a l ih=>
       obtain ⟨k,s⟩:=a
       rw [List.lookup_cons] at hl
       cases hk:p.1==k with
       | true=>rw [hk] at hl;cases hl
       | false=>
        rw [hk] at hl
        rcases List.mem_cons.1 hp with rfl | hp
        ·simp at hk
        ·exact ih hl hp
  ·exact ih (fun p hp=>hS p (List.mem_cons_of_mem _ hp)) q hq

theorem Inv.run {S:St}(hS:Inv S w cx own env tv)(st:Step cx own w env tv u.A u.W u.d own' w' env' tv')(af:AffOk cx own w u own' w')
  (hb:∀ p∈u.bx,u.isDst p.1=false→SlotOk w' cx own' env' tv' p.1 p.2)(hd:∀ d sh,u.dst=some (d,sh)→SlotOk w' cx own' env' tv' d sh):Inv (u.run S) w' cx own' env' tv':=by
 unfold Up.run
 cases hu:u.dst with
 | none=>exact hS.runs st af hb
 | some p=>
  obtain ⟨d,nsh⟩:=p
  intro q hq
  rcases List.mem_cons.1 hq with rfl | hq
  ·exact hd d nsh hu
  ·exact hS.runs st af hb q hq

end

end
section

def tvA (a:Act)(s:Nat):Value:=a.tmps.getD s undef

theorem aQ (a:Act)(d:Nat)(v:Value)(h:d<a.tmps.size)(s:Nat):tvA (a.put (some d) v) s=if s=d then v else tvA a s:=by
 simp only [tvA,Act.put,Array.getD_eq_getD_getElem?]
 rw [Array.getElem?_setIfInBounds]
 by_cases hs:s=d
 ·subst hs;simp [h]
 ·rw [if_neg (fun e=>hs e.symm),if_neg hs]

theorem zY (a:Act)(s:Nat):a.eval (.tmp s)=tvA a s:=rfl

structure Done (cx:Cx) (own:Own) (w:World) (a:Act) (env:Env) (u:Up) (own':Own) (w':World) (a':Act) (env':Env):Prop where
 st:Step cx own w env (tvA a) u.A u.W u.d own' w' env' (tvA a')
 af:AffOk cx own w u own' w'
 bx:∀ p∈u.bx,u.isDst p.1=false→SlotOk w' cx own' env' (tvA a') p.1 p.2
 dst:∀ d sh,u.dst=some (d,sh)→SlotOk w' cx own' env' (tvA a') d sh
 size:a'.tmps.size=a.tmps.size
 defers:a'.defers=a.defers

def vP (own:Own)(d:Nat):Own:=fun g=>match own g with | some i=>if i.leaf.1=d then none else some i | none=>none

theorem mU {own:Own}{d g:Nat}{i:OI}:vP own d g=some i↔own g=some i∧i.leaf.1≠d:=by
 unfold vP
 cases h:own g with
 | none=>simp
 | some j=>
  by_cases hj:j.leaf.1=d
  ·simp only [if_pos hj,Option.some.injEq]
   constructor
   ·intro h;cases h
   ·rintro ⟨rfl,h2⟩;exact absurd hj h2
  ·simp only [if_neg hj,Option.some.injEq]
   constructor
   ·rintro rfl;exact ⟨rfl,hj⟩
   ·rintro ⟨rfl,_⟩;rfl

theorem FE {own:Own}{d g:Nat}(h:own g=none):vP own d g=none:=by simp [vP,h]

theorem HW {own:Own}{d g o:Nat}(h:claimed (vP own d) g o):claimed own g o:=by
 obtain ⟨i,b,h1,h2⟩:=h
 exact ⟨i,b,(mU.1 h1).1,h2⟩

theorem FF {cx:Cx}{own:Own}(h:∀ g o,cx.S1 g o→cx.S2 g o){g o:Nat}(hr:RS cx own g o):BS cx own g o:=
 ⟨aW hr.1,hr.2.imp (h g o) id⟩

theorem Rep.sub {w:World}{S S':Nat→Nat→Prop}{d:D}{v:Value}(h:Rep w S d v)(hs:∀ g o,S g o→S' g o):Rep w S' d v:=
 h.in_ (fun _ _ _ _ h=>h) (fun _ cur _ h=>⟨cur,h,rfl⟩) (fun g o _ h _=>hs g o h)

theorem OwnRep.frozen {w:World}{cx:Cx}{own own':Own}{lf:Nat×Nat}{m:Bool}{f:Fz}{d:D}{v:Value}(h:OwnRep w cx own lf m f d v)
  (hl:∀ g i,own g=some i→i.leaf=lf→own' g=none∧cx.N g)(hr:∀ g,own g=none→own' g=none):Rep w (RS cx own') d v:=by
 have hl':=hl
 cases h with
 | nil=>exact .nil _ _
 | sl xs g cap cur T fr vs h1 h2 h3 h4 h5 h6 h7 h8 h9 h10=>
  obtain ⟨ha,hb⟩:=hl g _ h2 rfl
  refine .sl xs g 0 f.sz cap vs h3 h8 (fun i x j d hx hj=>by rw [Nat.zero_add,bM h1];exact h9 i x j d hx hj) (fun i x j d hx hj=>⟨ha,.inr hb⟩) (fun i x j d hx hj=>?_)
  have h11:=h10 i x j d hx hj
  obtain ⟨sz,u⟩:=f
  cases u with
  | false=>exact Rep.in_ h11 (fun _ _ _ _ h=>h) (fun _ cur _ h=>⟨cur,h,rfl⟩) (fun g o u hs _=>⟨hr g hs.1,hs.2⟩)
  | true=>exact InRep.rep h11 (fun g i o hi hl _=>⟨⟨(hl' g i hi hl).1,.inr (hl' g i hi hl).2⟩,rfl⟩)
 | ip xs v hf h1=>exact InRep.rep h1 (fun g i o hi hl _=>⟨⟨(hl' g i hi hl).1,.inr (hl' g i hi hl).2⟩,rfl⟩)

theorem OwnRep.borrow {w:World}{cx:Cx}{own:Own}{lf:Nat×Nat}{f:Fz}{d:D}{v:Value}(h:OwnRep w cx own lf false f d v)
  (hN:∀ g i,own g=some i→cx.N g)(h12:∀ g o,cx.S1 g o→cx.S2 g o):Rep w (BS cx own) d v:=by
 cases h with
 | nil=>exact .nil _ _
 | sl xs g cap cur T fr vs h1 h2 h3 h4 h5 h6 h7 h8 h9 h10=>
  refine .sl xs g 0 f.sz cap vs h3 h8 (fun i x j d hx hj=>by rw [Nat.zero_add,bM h1];exact h9 i x j d hx hj) (fun i x j d hx hj=>⟨?_,.inr (hN g _ h2)⟩) (fun i x j d hx hj=>?_)
  ·rintro ⟨i',b,h11,h12,h13⟩
   rw [h2] at h11
   simp only [Option.some.injEq] at h11
   subst h11
   simp only [Bool.false_eq_true,if_false,Option.some.injEq] at h12
   subst h12
   have hi:i<xs.length:=(List.getElem?_eq_some_iff.1 hx).1
   have hj':j<x.length:=(List.getElem?_eq_some_iff.1 hj).1
   rw [h8 x (List.mem_of_getElem? hx)] at hj'
   have:i*f.sz+f.sz≤xs.length*f.sz:=by rw [←Nat.succ_mul];exact Nat.mul_le_mul_right _ hi
   omega
  ·have h11:=h10 i x j d hx hj
   obtain ⟨sz,u⟩:=f
   cases u with
   | false=>exact Rep.sub h11 (fun g o=>FF h12)
   | true=>exact InRep.rep h11 (fun g i o hi hl hb=>⟨⟨fun ⟨i',b,e1,e2,_⟩=>(by rw [hi] at e1;simp only [Option.some.injEq] at e1;rw [←e1,hb] at e2;cases e2),.inr (hN g i hi)⟩,rfl⟩)
 | ip xs v hf h1=>exact InRep.rep h1 (fun g i o hi hl hb=>⟨⟨fun ⟨i',b,e1,e2,_⟩=>(by rw [hi] at e1;simp only [Option.some.injEq] at e1;rw [←e1,hb] at e2;cases e2),.inr (hN g i hi)⟩,rfl⟩)

theorem OwnRep.rep {w:World}{cx:Cx}{own:Own}{lf:Nat×Nat}{m:Bool}{f:Fz}{d:D}{v:Value}{S:Nat→Nat→Prop}(h:OwnRep w cx own lf m f d v)
  (hS:∀ g i o,own g=some i→i.leaf=lf→S g o)(hr:∀ g o,RS cx own g o→S g o):Rep w S d v:=by
 cases h with
 | nil=>exact .nil _ _
 | sl xs g cap cur T fr vs h1 h2 h3 h4 h5 h6 h7 h8 h9 h10=>
  refine .sl xs g 0 f.sz cap vs h3 h8 (fun i x j d hx hj=>by rw [Nat.zero_add,bM h1];exact h9 i x j d hx hj) (fun i x j d hx hj=>hS g _ _ h2 rfl) (fun i x j d hx hj=>?_)
  have h11:=h10 i x j d hx hj
  obtain ⟨sz,u⟩:=f
  cases u with
  | false=>exact Rep.sub h11 hr
  | true=>exact InRep.rep h11 (fun g i o hi hl _=>⟨hS g i o hi hl,rfl⟩)
 | ip xs v hf h1=>exact InRep.rep h1 (fun g i o hi hl _=>⟨hS g i o hi hl,rfl⟩)

theorem aS.rep {w:World}{cx:Cx}{own:Own}{s i:Nat}{c:CS}{d:D}{v:Value}(h:aS w cx own s i c d v)(hc:zU c=true):Rep w (fun _ _=>True) d v:=by
 have h2:=h.2
 cases c with
 | n=>obtain ⟨rfl,rfl⟩:=h2;exact .nil _ _
 | s=>exact .scal h2
 | r=>exact Rep.sub h2 (fun _ _ _=>trivial)
 | b=>exact Rep.sub h2 (fun _ _ _=>trivial)
 | o m f=>exact OwnRep.rep (f:=f) h2 (fun _ _ _ _ _=>trivial) (fun _ _ _=>trivial)
 | al _ _ m f=>exact OwnRep.rep (f:=f) h2 (fun _ _ _ _ _=>trivial) (fun _ _ _=>trivial)
 | x=>cases hc

end
section

def CS.isO:CS→Bool
 | .o _ _=>true
 | _=>false

def Sh.noOwn:Sh→Bool
 | .v _ cs=>cs.all (fun c=> !c.isO)
 | .box _ _=>false
 | .tup ps=>ps.all fun p=>p.2.all (fun c=> !c.isO)
 | .opt _ _ sh=>sh.noOwn
 | _=>true

section
variable {cx:Cx}{own own':Own}{w w':World}{env env':Env}{tv tv':Nat→Value}{u:Up}

theorem Gr {A:Nat×Nat→Prop}{W:Nat→Prop}{dd:Option Nat}{d:Nat}(st:Step cx own w env tv A W dd own' w' env' tv')(hA:∀ lf,A lf→lf.1=d){s i:Nat}{c:CS}(hn:Sh.names.nm d c=false)(ho:c.isO=false)
  {x:D}{v:Value}(h:aS w cx own s i c x v):aS w' cx own' s i c x v:=by
 refine ⟨h.1,?_⟩
 have h2:=h.2
 cases c with
 | n=>exact h2
 | s=>exact h2
 | r=>exact st.rs h2
 | b=>exact st.bs h2
 | x=>trivial
 | o m f=>cases ho
 | al hh k m f=>
  refine st.ownr (f:=f) (fun ha=>?_) h2
  have:=hA _ ha
  simp only at this
  subst this
  simp [Sh.names.nm] at hn

theorem ZF {A:Nat×Nat→Prop}{W:Nat→Prop}{dd:Option Nat}{d:Nat}(st:Step cx own w env tv A W dd own' w' env' tv')(hA:∀ lf,A lf→lf.1=d){tv0:Nat→Value}{env0:Env}:
  ∀ {sh:Sh},sh.names d=false→sh.noOwn=true→SlotOk w cx own env0 tv0 d sh→SlotOk w' cx own' env0 tv0 d sh:=by
 intro sh
 induction sh with
 | dead=>intro _ _ _;trivial
 | v a cs=>
  rintro hn ho ⟨vs,h1,h2,h3⟩
  refine ⟨vs,h1,h2,h3.1,h3.2.1,fun i c x v hc hx hv=>Gr st hA ?_ ?_ (h3.2.2 i c x v hc hx hv)⟩
  ·have:=List.any_eq_false.1 hn c (List.mem_of_getElem? hc)
   simpa using this
  ·have:=List.all_eq_true.1 ho c (List.mem_of_getElem? hc)
   simpa using this
 | box ro cs=>intro _ ho;cases ho
 | pt b off=>intro _ _ h;exact h
 | el c off=>
  rintro hn ho ⟨xs,k,n,g,o0,sz,len,cap,h1,h2,h3,h4,h5,h6,h7⟩
  refine ⟨xs,k,n,g,o0,sz,len,cap,h1,h2,h3,h4,h5,Gr st hA hn ?_ h6,h7⟩
  cases c<;>first | rfl | exact absurd rfl (h5 _ _)
 | bx b es off=>intro _ _ h;exact h
 | clo f deps=>
  rintro hn ho ⟨fs,cs,h1,h2⟩
  refine ⟨fs,cs,h1,st.cset (fun lf hlf ha=>?_) h2⟩
  have:=hA _ ha
  subst this
  have:=List.any_eq_false.1 hn lf.1 hlf
  exact this (Nat.beq_refl _)
 | tup ps=>
  rintro hn ho ⟨vss,h1,h2,h3,h4⟩
  refine ⟨vss,h1,h2,h3,h4.1,h4.2.1,fun i c x v hc hx hv=>Gr st hA ?_ ?_ (h4.2.2 i c x v hc hx hv)⟩
  ·obtain ⟨p,hp,hcp⟩:=List.mem_flatMap.1 (List.mem_of_getElem? hc)
   have h5:=List.any_eq_false.1 hn p hp
   have h6:p.2.any (Sh.names.nm d)=false:=by simpa using h5
   have:=List.any_eq_false.1 h6 c hcp
   simpa using this
  ·obtain ⟨p,hp,hcp⟩:=List.mem_flatMap.1 (List.mem_of_getElem? hc)
   have h5:=List.all_eq_true.1 ho p hp
   have:=List.all_eq_true.1 h5 c hcp
   simpa using this
 | ld p h i=>
  rintro hn ho ⟨g,off,v,h1,h2,h3,h4⟩
  simp only [Sh.names,Bool.or_eq_false_iff] at hn
  obtain ⟨h5,h6⟩:=st.lab g _ h3 (fun ha=>by
   have:=hA _ ha
   simp only at this
   rw [this] at hn
   simp at hn)
  refine ⟨g,off,v,h1,h2,h5,?_⟩
  have:w'.cell? ⟨g,off,none⟩=w.cell? ⟨g,off,none⟩:=by simp [World.cell?,h6]
  rw [this];exact h4
 | opt g b sh ih=>
  rintro hn ho ⟨h1,h2⟩
  simp only [Sh.names,Bool.or_eq_false_iff] at hn
  exact ⟨fun h=>ih hn.2 ho (h1 h),h2⟩

end

section
variable {P:Program}{C:Cfg}{w0:World}{own0:Own}{cx:Cx}{own:Own}{w:World}{a:Act}{env:Env}{L:Look}{g:Gd}

theorem aB2 {d:Nat}{sh:Sh}(lf:Nat×Nat)(h:({dst:=some (d,sh) }:Up).A lf):lf.1=d:=by
 rcases h with h | ⟨p,hp,_⟩ | ⟨i,_,h⟩
 ·exact Nat.eq_of_beq_eq_true h
 ·cases hp
 ·rcases h with h | h<;>simp [Up.find,Up.isTo] at h

theorem QI (hw:WOk w0 own0 cx own w){u:Up}{d:Nat}{c:List D}(hu:u.d=some d){tv tv':Nat→Value}(htv:∀ s,s≠d→tv' s=tv s):
  Step cx own w env tv u.A u.W u.d (vP own d) w (put env d c) tv' where
 kept:=Kept.refl own w
 none':=fun g _ h=>FE h
 unc:=fun g o _ h hc=>h (HW hc)
 lab:=fun g i h hA=>⟨mU.2 ⟨h,fun hd=>hA (.inl (by rw [Up.isDst_iff,hu,hd]))⟩,rfl⟩
 new:=fun g i h=>hw.dom g i (mU.1 h).1
 inj:=fun g g' i j h h'=>hw.inj g g' i j (mU.1 h).1 (mU.1 h').1
 env:=fun s hs=>cY _ _ _ _ (fun e=>hs (.inl (by rw [Up.isDst_iff,hu,e])))
 tv:=fun s hs=>htv s (fun e=>hs (by rw [hu,e]))

theorem NI (hw:WOk w0 own0 cx own w){d:Nat}{sh:Sh}{c:List D}{v:Value}(hd:d<a.tmps.size)(hn:sh.names d=false)(ho:sh.noOwn=true)
  (hs:SlotOk w cx own (put env d c) (tvA (a.put (some d) v)) d sh):
  Done cx own w a env {dst:=some (d,sh) } (vP own d) w (a.put (some d) v) (put env d c):=by
 have st:=QI (env:=env) (c:=c) (u:={dst:=some (d,sh) }) hw rfl (tv:=tvA a) (tv':=tvA (a.put (some d) v)) (fun s hs=>by rw [aQ a d v hd,if_neg hs])
 refine ⟨st,⟨(fun a ha=>by cases ha),(fun a ha=>by cases ha),(fun a ha=>by cases ha),fun h i hh hf m f x v ho=>?_⟩,(fun p hp=>by cases hp),fun d' sh' h=>?_,by simp [Act.put],rfl⟩
 ·refine ho.frozen (fun g i hi hl=>⟨?_,(hw.dom g i hi).2⟩) (fun g hg=>FE hg)
  cases he:vP own d g with
  | none=>rfl
  | some j=>
   obtain ⟨h1,h2⟩:=mU.1 he
   rw [hi] at h1
   simp only [Option.some.injEq] at h1
   subst h1
   rw [hl] at h2
   exact absurd (Nat.eq_of_beq_eq_true hh) h2
 ·simp only [Option.some.injEq,Prod.mk.injEq] at h
  obtain ⟨rfl,rfl⟩:=h
  exact ZF st (fun lf h=>aB2 lf h) hn ho hs

def nM (P:Program)(cx:Cx)(own:Own)(w:World)(a:Act)(env:Env)(o:Oper)(u:Up)(env':Env):Prop:=
 ∃ v own' w',(execOp a.eval o).run P w= .ok (.value v) w'∧Done cx own w a env u own' w' (a.put o.dst v) env'

def jL (P:Program)(cx:Cx)(own:Own)(w:World)(a:Act)(env:Env)(o:Oper)(u:Up)(env':Env):Prop:=
 ∃ v own',(∀ w2:World,(execOp a.eval o).run P w2= .ok (.value v) w2)∧Done cx own w a env u own' w (a.put o.dst v) env'

theorem jL.runs {u:Up}{o:Oper}{env':Env}(h:jL P cx own w a env o u env'):nM P cx own w a env o u env':=by
 obtain ⟨v,own',hr,hd⟩:=h
 exact ⟨v,own',w,hr w,hd⟩

theorem dH (hw:WOk w0 own0 cx own w){o:Oper}{d:Nat}{sh:Sh}{c:List D}{v:Value}(hod:o.dst=some d)(hd:d<a.tmps.size)(hn:sh.names d=false)(ho:sh.noOwn=true)
  (hr:∀ w2:World,(execOp a.eval o).run P w2= .ok (.value v) w2)
  (hs:SlotOk w cx own (put env d c) (tvA (a.put (some d) v)) d sh):jL P cx own w a env o {dst:=some (d,sh) } (put env d c):=
 ⟨v,vP own d,hr,by rw [hod];exact NI hw hd hn ho hs⟩

theorem sR (hw:WOk w0 own0 cx own w){o:Oper}{d:Nat}{sh:Sh}{c:List D}{v:Value}(hod:o.dst=some d)(hd:d<a.tmps.size)(hn:sh.names d=false)(ho:sh.noOwn=true)
  (hr:(execOp a.eval o).run P w= .ok (.value v) w)
  (hs:SlotOk w cx own (put env d c) (tvA (a.put (some d) v)) d sh):nM P cx own w a env o {dst:=some (d,sh) } (put env d c):=
 ⟨v,vP own d,w,hr,by rw [hod];exact NI hw hd hn ho hs⟩

theorem eV (hL:∀ z,SlotOk w cx own env (tvA a) z (L z))(hg:∀ gs b,g=some (gs,b)→env gs=[.bool b])(s:Nat):SlotOk w cx own env (tvA a) s (sP L g s):=by
 have h:=hL s
 unfold sP
 split
 ·rename_i gs b sh he
  rw [he] at h
  by_cases hgg:g=some (gs,b)
  ·rw [if_pos hgg];exact h.1 (hg gs b hgg)
  ·rw [if_neg hgg];trivial
 ·exact h

theorem wI {v:Value}(h:rW v=true)(s i:Nat):aS w cx own s i (hY v).2 (hY v).1 v:=by
 constructor
 ·constructor<;>intro c hc<;>subst hc<;>cases h
 ·unfold hY
  split<;>first | exact .int _ _ | exact .bool _ | exact .str _ | exact ⟨rfl,rfl⟩ | trivial

theorem opV (hL:∀ z,SlotOk w cx own env (tvA a) z (L z))(hg:∀ gs b,g=some (gs,b)→env gs=[.bool b]){x:Operand}{ag:Bool}{cs:List CS}(h:lS L g x= .v ag cs):
  ∃ vs s,a.eval x=wrapV ag vs∧(ag=false→vs.length=1)∧(∀ t,x= .tmp t→s=t)∧All3 (aS w cx own s) cs ((cC x).get env) vs:=by
 cases x with
 | tmp t=>
  have hs:=eV hL hg t
  simp only [lS] at h
  rw [h] at hs
  obtain ⟨vs,h1,h2,h3⟩:=hs
  exact ⟨vs,t,h1,h2,(fun t' he=>by cases he;rfl),h3⟩
 | const v=>
  simp only [lS] at h
  cases hc:rW v with
  | false=>rw [hc] at h;cases h
  | true=>
   rw [hc] at h
   simp only [Sh.v.injEq] at h
   obtain ⟨rfl,rfl⟩:=h
   refine ⟨[v],0,rfl,fun _=>rfl,(fun t ht=>by cases ht),rfl,rfl,fun i c d u hc' hd hu=>?_⟩
   cases i with
   | zero=>
    simp only [List.getElem?_cons_zero,Option.some.injEq] at hc' hu
    simp only [cC,Opd.get,List.getElem?_cons_zero,Option.some.injEq] at hd
    subst hc';subst hu;subst hd
    exact wI hc 0 0
   | succ i=>simp at hc'
 | global=>simp [lS] at h
 | func f=>simp [lS] at h

theorem All3.one {Q:Nat→CS→D→Value→Prop}{c:CS}{ds:List D}{vs:List Value}(h:All3 Q [c] ds vs):∃ d v,ds=[d]∧vs=[v]∧Q 0 c d v:=by
 obtain ⟨h1,h2,h3⟩:=h
 match ds,vs,h1,h2 with
 | [d],[v],_,_=>exact ⟨d,v,rfl,rfl,h3 0 c d v rfl rfl rfl⟩

theorem op1 (hL:∀ z,SlotOk w cx own env (tvA a) z (L z))(hg:∀ gs b,g=some (gs,b)→env gs=[.bool b]){x:Operand}{c:CS}(h:lS L g x= .v false [c]):
  ∃ d v s,a.eval x=v∧(cC x).get env=[d]∧(∀ t,x= .tmp t→s=t)∧aS w cx own s 0 c d v:=by
 obtain ⟨vs,s,h1,h2,h3,h4⟩:=opV hL hg h
 obtain ⟨d,v,hd,rfl,hq⟩:=h4.one
 exact ⟨d,v,s,h1,hd,h3,hq⟩

theorem EJ (hL:∀ z,SlotOk w cx own env (tvA a) z (L z))(hg:∀ gs b,g=some (gs,b)→env gs=[.bool b]){x:Operand}(h:scal L g x=true):
  ∃ d v,a.eval x=v∧(cC x).get env=[d]∧Scal d v:=by
 unfold scal at h
 split at h
 ·rename_i he
  obtain ⟨d,v,s,h1,h2,_,h4⟩:=op1 hL hg he
  exact ⟨d,v,h1,h2,h4.2⟩
 ·cases h

theorem Scal.cell1 {d:D}{v:Value}(h:Scal d v):Cell1 v:=by cases h<;>exact ⟨fun _=>by simp,fun _=>by simp⟩

theorem KT {d:Nat}{x:D}{v:Value}(hd:d<a.tmps.size)(h:Scal x v):SlotOk w cx own (put env d [x]) (tvA (a.put (some d) v)) d (.v false [.s]):=by
 refine ⟨[v],by rw [aQ a d v hd,if_pos rfl];rfl,fun _=>rfl,by rw [aI];rfl,by rw [aI];rfl,fun i c y u hc hy hu=>?_⟩
 rw [aI] at hy
 cases i with
 | zero=>
  simp only [List.getElem?_cons_zero,Option.some.injEq] at hc hy hu
  subst hc;subst hy;subst hu
  exact ⟨h.cell1,h⟩
 | succ i=>simp at hc

theorem wJ {d:Nat}{c:CS}{x:D}{v:Value}(hd:d<a.tmps.size)(h:aS w cx own d 0 c x v):SlotOk w cx own (put env d [x]) (tvA (a.put (some d) v)) d (.v false [c]):=by
 refine ⟨[v],by rw [aQ a d v hd,if_pos rfl];rfl,fun _=>rfl,by rw [aI];rfl,by rw [aI];rfl,fun i c' y u hc hy hu=>?_⟩
 rw [aI] at hy
 cases i with
 | zero=>
  simp only [List.getElem?_cons_zero,Option.some.injEq] at hc hy hu
  subst hc;subst hy;subst hu
  exact h
 | succ i=>simp at hc

theorem hZ (hw:WOk w0 own0 cx own w){o:Oper}{d:Nat}{x:D}{v:Value}(hod:o.dst=some d)(hd:d<a.tmps.size)
  (hr:∀ w2:World,(execOp a.eval o).run P w2= .ok (.value v) w2)(h:Scal x v):jL P cx own w a env o {dst:=some (d,.v false [.s]) } (put env d [x]):=
 dH hw hod hd rfl rfl hr (KT hd h)

theorem sG (hw:WOk w0 own0 cx own w){o:Oper}{d:Nat}{x:D}{v:Value}(hod:o.dst=some d)(hd:d<a.tmps.size)
  (hr:(execOp a.eval o).run P w= .ok (.value v) w)(h:Scal x v):nM P cx own w a env o {dst:=some (d,.v false [.s]) } (put env d [x]):=
 sR hw hod hd rfl rfl hr (KT hd h)

end

end
section

def ZG:D→Value→Bool
 | .int k n,.int k' m=>decide (k=k')&&decide (n=m)
 | .bool b,.bool c=>b==c
 | .str s,.string t=>Nat.beq s.size 0&&Nat.beq t.size 0
 | .sl [],.slice none 0 0=>true
 | .bad,v=>rW v
 | _,_=>false

def zsChk:List D→List Value→Bool
 | [],[]=>true
 | d::r,v::q=>ZG d v&&zsChk r q
 | _,_=>false

def isAggV:Value→Bool
 | .agg _=>true
 | _=>false

def HX:List Field→List (Nat×Nat)→Bool
 | [],[]=>true
 | f::r,(o,t)::q=>Nat.beq f.offset o&&Nat.beq f.type t&&HX r q
 | _,_=>false

def descChk:Option TypeDesc→TD→Bool
 | some (.int k),.int k'=>decide (k=k')
 | some .bool,.bool=>true
 | some .string,.str=>true
 | some (.slice e),.slice e'=>Nat.beq e e'
 | some (.struct fs),.struct l=>HX fs.toList l
 | some (.array n e),.array n' e'=>Nat.beq n n'&&Nat.beq e e'
 | some (.pointer e),.ptr e'=>Nat.beq e e'
 | some (.struct _),.other=>false
 | some (.array _ _),.other=>false
 | some _,.other=>true
 | _,_=>false

def fldChk (P:Program):TD→Bool
 | .struct fs=>fs.all fun p=>(P.info? p.2).isSome
 | .array _ e=>(P.info? e).isSome
 | _=>true

def TC (P:Program)(t:Nat)(ti:TI):Bool:=
 match P.info? t with
 | none=>false
 | some i=>Nat.beq i.size ti.size&&Nat.beq i.bytes ti.bytes&&Nat.ble i.bytes 100000&&Nat.beq ti.zero.length ti.size&&descChk (P.underlying t) ti.desc&&fldChk P ti.desc&&
  (match i.zero with
   | some z=>zsChk ti.zero z.cells.toList&&(isAggV z==ti.agg)
   | none=>false)

def Tr.all {α:Type}(p:Nat→α→Bool):Tr α→Bool
 | .e=>true
 | .n k v l r=>p k v&&l.all p&&r.all p

theorem Tr.all_All {α:Type}{p:Nat→α→Bool}:∀ {t:Tr α},t.all p=true→t.All (fun k v=>p k v=true)
 | .e,_=>trivial
 | .n k v l r,h=>by
  simp only [Tr.all,Bool.and_eq_true] at h
  exact ⟨h.1.1,Tr.all_All h.1.2,Tr.all_All h.2⟩

theorem Tr.get_all {α:Type}{p:Nat→α→Bool}{t:Tr α}(h:t.all p=true){i:Nat}{v:α}(hg:t.get i=some v):p i v=true:=(Tr.all_All h).get hg

theorem xI {d:D}{v:Value}(h:ZG d v=true)(s i:Nat)(w:World)(cx:Cx)(own:Own):aS w cx own s i (zc d) d v:=by
 unfold ZG at h
 split at h
 ·simp only [Bool.and_eq_true,decide_eq_true_eq] at h
  obtain ⟨rfl,rfl⟩:=h
  exact ⟨Scal.cell1 (.int _ _),.int _ _⟩
 ·simp only [beq_iff_eq] at h
  subst h
  exact ⟨Scal.cell1 (.bool _),.bool _⟩
 ·rename_i s t
  simp only [Bool.and_eq_true] at h
  have h1:=Nat.eq_of_beq_eq_true h.1
  have h2:=Nat.eq_of_beq_eq_true h.2
  have:s=t:=by
   apply ByteArray.ext
   have e1:s.data.size=0:=h1
   have e2:t.data.size=0:=h2
   rw [Array.eq_empty_of_size_eq_zero e1,Array.eq_empty_of_size_eq_zero e2]
  subst this
  exact ⟨Scal.cell1 (.str _),.str _⟩
 ·exact ⟨⟨fun _=>by simp,fun _=>by simp⟩,rfl,rfl⟩
 ·refine ⟨⟨?_,?_⟩,trivial⟩<;>intro c hc<;>subst hc<;>cases h
 ·cases h

theorem mV:∀ {zs:List D} {vs:List Value},zsChk zs vs=true→vs.length=zs.length
 | [],[],_=>rfl
 | [],_::_,h=>by cases h
 | _::_,[],h=>by cases h
 | d::r,v::q,h=>by
  simp only [zsChk,Bool.and_eq_true] at h
  simp [mV h.2]

theorem mW:∀ {zs:List D} {vs:List Value},zsChk zs vs=true→∀ {i:Nat} {d:D} {v:Value},zs[i]? =some d→vs[i]? =some v→ZG d v=true
 | [],_,_,i,d,v,hd,_=>by simp at hd
 | _::_,[],h,_,_,_,_,_=>by cases h
 | d::r,v::q,h,0,d',v',hd,hv=>by
  simp only [zsChk,Bool.and_eq_true] at h
  simp only [List.getElem?_cons_zero,Option.some.injEq] at hd hv
  subst hd;subst hv
  exact h.1
 | d::r,v::q,h,i+1,d',v',hd,hv=>by
  simp only [zsChk,Bool.and_eq_true] at h
  exact mW h.2 (by simpa using hd) (by simpa using hv)

theorem EN:∀ {fs:List Field} {l:List (Nat×Nat)},HX fs l=true→∀ {k o t:Nat},l[k]? =some (o,t)→∃ f,fs[k]? =some f∧f.offset=o∧f.type=t
 | [],[],_,k,o,t,h=>by simp at h
 | [],_::_,h,_,_,_,_=>by cases h
 | _::_,[],h,_,_,_,_=>by cases h
 | f::r,(a,b)::q,h,0,o,t,hk=>by
  simp only [HX,Bool.and_eq_true] at h
  simp only [List.getElem?_cons_zero,Option.some.injEq,Prod.mk.injEq] at hk
  obtain ⟨rfl,rfl⟩:=hk
  exact ⟨f,rfl,Nat.eq_of_beq_eq_true h.1.1,Nat.eq_of_beq_eq_true h.1.2⟩
 | f::r,(a,b)::q,h,k+1,o,t,hk=>by
  simp only [HX,Bool.and_eq_true] at h
  exact EN h.2 (by simpa using hk)

structure TyOk (P:Program) (t:Nat) (ti:TI):Prop where
 info:∃ i,P.info? t=some i∧i.size=ti.size∧i.bytes=ti.bytes∧i.bytes≤100000
 len:ti.zero.length=ti.size
 desc:descChk (P.underlying t) ti.desc=true
 fld:fldChk P ti.desc=true
 zero:∃ i z,P.info? t=some i∧i.zero=some z∧zsChk ti.zero z.cells.toList=true∧isAggV z=ti.agg

theorem Wc {P:Program}{t:Nat}{ti:TI}(h:TC P t ti=true):TyOk P t ti:=by
 unfold TC at h
 split at h
 ·cases h
 ·rename_i i hi
  simp only [Bool.and_eq_true] at h
  obtain ⟨⟨⟨⟨⟨⟨h1,h2⟩,h3⟩,h4⟩,h5⟩,h5'⟩,h6⟩:=h
  split at h6
  ·rename_i z hz
   simp only [Bool.and_eq_true,beq_iff_eq] at h6
   exact ⟨⟨i,hi,Nat.eq_of_beq_eq_true h1,Nat.eq_of_beq_eq_true h2,Nat.le_of_ble_eq_true h3⟩,Nat.eq_of_beq_eq_true h4,h5,h5',i,z,hi,hz,h6.1,h6.2⟩
  ·cases h6

section
variable {P:Program}{t:Nat}{ti:TI}(h:TyOk P t ti)(w:World)
include h

theorem TyOk.size:(sizeOf t).run P w= .ok ti.size w:=by
 obtain ⟨i,h1,h2,_⟩:=h.info
 simp [sizeOf,typeInfo,h1,h2]

theorem TyOk.und:∃ d,P.underlying t=some d:=by
 have:=h.desc
 cases hu:P.underlying t with
 | none=>rw [hu] at this;simp [descChk] at this
 | some d=>exact ⟨d,rfl⟩

theorem TyOk.isAgg:(isAgg t).run P w= .ok ti.agg w:=by
 have hd:=h.desc
 obtain ⟨d,hu⟩:=h.und
 unfold Go.isAgg
 rw [Sem.run_bind,run_underlying hu w]
 rw [hu] at hd
 simp only [Result.andThen_ok]
 unfold TI.agg
 cases d<;>cases hti:ti.desc<;>rw [hti] at hd<;>first | (cases hd;done) | rfl

theorem TyOk.zeroV:∃ z,(zeroValue t).run P w= .ok z w∧zsChk ti.zero z.cells.toList=true∧isAggV z=ti.agg:=by
 obtain ⟨i,z,h1,h2,h3,h4⟩:=h.zero
 exact ⟨z,by simp [zeroValue,typeInfo,h1,h2],h3,h4⟩

theorem TyOk.one (ha:ti.agg=false):ti.size=1:=by
 obtain ⟨i,z,h1,h2,h3,h4⟩:=h.zero
 rw [ha] at h4
 have hc:z.cells=#[z]:=by
  unfold Value.cells
  split
  ·cases h4
  ·rfl
 have:=mV h3
 rw [hc] at this
 rw [←h.len]
 simpa using this.symm

theorem TyOk.slice {e:Nat}(hd:ti.desc= .slice e):P.underlying t=some (.slice e):=by
 have:=h.desc
 obtain ⟨d,hu⟩:=h.und
 rw [hd,hu] at this
 cases d<;>simp only [descChk,Bool.false_eq_true] at this
 rw [Nat.eq_of_beq_eq_true this] at hu
 exact hu

theorem TyOk.str (hd:ti.desc= .str):P.underlying t=some .string:=by
 have:=h.desc
 obtain ⟨d,hu⟩:=h.und
 rw [hd,hu] at this
 cases d<;>simp only [descChk,Bool.false_eq_true] at this
 exact hu

theorem TyOk.int {k:IntKind}(hd:ti.desc= .int k):P.underlying t=some (.int k):=by
 have:=h.desc
 obtain ⟨d,hu⟩:=h.und
 rw [hd,hu] at this
 cases d<;>simp only [descChk,Bool.false_eq_true,decide_eq_true_eq] at this
 rw [this] at hu
 exact hu

theorem TyOk.array {n e:Nat}(hd:ti.desc= .array n e):P.underlying t=some (.array n e):=by
 have:=h.desc
 obtain ⟨d,hu⟩:=h.und
 rw [hd,hu] at this
 cases d<;>simp only [descChk,Bool.false_eq_true,Bool.and_eq_true] at this
 rw [Nat.eq_of_beq_eq_true this.1,Nat.eq_of_beq_eq_true this.2] at hu
 exact hu

theorem TyOk.field {fs:List (Nat×Nat)}(hd:ti.desc= .struct fs){k o ft:Nat}(hk:fs[k]? =some (o,ft)):∃ fields f,P.underlying t=some (.struct fields)∧fields[k]? =some f∧f.offset=o∧f.type=ft:=by
 have:=h.desc
 obtain ⟨d,hu⟩:=h.und
 rw [hd,hu] at this
 cases d<;>simp only [descChk,Bool.false_eq_true] at this
 rename_i fields
 obtain ⟨f,h1,h2,h3⟩:=EN this hk
 exact ⟨fields,f,hu,by rw [←Array.getElem?_toList];exact h1,h2,h3⟩
end

def CfgOk (P:Program)(C:Cfg):Prop:=∀ t ti,C.ty t=some ti→TyOk P t ti

end
section

theorem DD (env:Env)(d:Nat):put env d (env d)=env:=by
 funext s
 unfold put
 split
 ·rename_i h;rw [h]
 ·rfl

section
variable {P:Program}{C:Cfg}{w0:World}{own0:Own}{cx:Cx}{own:Own}{w:World}{a:Act}{env env':Env}{L:Look}{g:Gd}{o:Oper}{u:Up}{p:PS}{d:Nat}

theorem sS (s:Nat):∀ (cs:List CS) (n i:Nat),(alias s cs n)[i]? =(cs[i]?).map (fun c=>match c with | .o m f=> .al s (n+i) m f | c=>c)
 | [],n,i=>by simp [alias]
 | c::r,n,0=>by cases c<;>simp [alias]
 | c::r,n,i+1=>by
  have ih:=sS s r (n+1) i
  rw [show n+1+i=n+(i+1) from by omega] at ih
  cases c<;>simp only [alias,List.getElem?_cons_succ]<;>exact ih

theorem xJ (s:Nat):∀ (cs:List CS) (n:Nat),(alias s cs n).length=cs.length
 | [],_=>rfl
 | c::r,n=>by cases c<;>simp [alias,xJ s r]

theorem sH (s:Nat)(cs:List CS)(n:Nat):∀ c∈alias s cs n,c.isO=false:=by
 intro c hc
 obtain ⟨i,hi⟩:=List.getElem?_of_mem hc
 rw [sS] at hi
 cases hci:cs[i]? with
 | none=>rw [hci] at hi;simp at hi
 | some c0=>
  rw [hci] at hi
  simp only [Option.map_some,Option.some.injEq] at hi
  subst hi
  cases c0<;>rfl

theorem All3.alias {s d n:Nat}{cs:List CS}{ds:List D}{vs:List Value}(h:All3 (fun i=>aS w cx own s (n+i)) cs ds vs):All3 (aS w cx own d) (V.alias s cs n) ds vs:=by
 refine ⟨by rw [xJ];exact h.1,h.2.1,fun i c x v hc hx hv=>?_⟩
 rw [sS] at hc
 cases hci:cs[i]? with
 | none=>rw [hci] at hc;simp at hc
 | some c0=>
  rw [hci] at hc
  simp only [Option.map_some,Option.some.injEq] at hc
  subst hc
  have:=h.2.2 i c0 x v hci hx hv
  cases c0<;>exact this

theorem xK {cs:List CS}(h:∀ c∈cs,c.isO=false):cs.all (fun c=> !c.isO)=true:=List.all_eq_true.2 fun c hc=>by simp [h c hc]

theorem wK (x:Operand)(ho:o.op= .move x∨o.op= .assign x):(execOp a.eval o).run P w= .ok (.value (a.eval x)) w:=by
 unfold execOp
 rcases ho with h | h<;>rw [h]<;>rfl

theorem DE (s:Nat):∀ (cs l:List CS) (n:Nat),alias s (cs++l) n=alias s cs n++alias s l (n+cs.length)
 | [],l,n=>by simp [alias]
 | c::q,l,n=>by
  have:=DE s q l (n+1)
  rw [show n+1+q.length=n+(q.length+1) from by omega] at this
  cases c<;>simp only [alias,List.cons_append,List.length_cons,List.cons.injEq,true_and]<;>exact this

theorem CJ (s:Nat):∀ (ps:List (Bool×List CS)) (n:Nat),(lK s ps n).flatMap (·.2)=alias s (ps.flatMap (·.2)) n
 | [],_=>rfl
 | (a,cs)::r,n=>by
  simp only [lK,List.flatMap_cons,CJ s r,DE]

theorem HY (s:Nat):∀ (ps:List (Bool×List CS)) (n i:Nat) (q:Bool×List CS),(lK s ps n)[i]? =some q→∃ p,ps[i]? =some p∧q.1=p.1∧q.2.length=p.2.length
 | [],_,_,_,h=>by simp [lK] at h
 | (a,cs)::r,n,0,q,h=>by
  simp only [lK,List.getElem?_cons_zero,Option.some.injEq] at h
  subst h
  exact ⟨(a,cs),rfl,rfl,xJ _ _ _⟩
 | (a,cs)::r,n,i+1,q,h=>by
  simp only [lK,List.getElem?_cons_succ] at h
  obtain ⟨p,h1,h2⟩:=HY s r _ i q h
  exact ⟨p,by simpa using h1,h2⟩

theorem HZ (s:Nat):∀ (ps:List (Bool×List CS)) (vss:List (List Value)) (n:Nat),List.zipWith (fun p vs=>wrapV p.1 vs) (lK s ps n) vss=List.zipWith (fun p vs=>wrapV p.1 vs) ps vss
 | [],_,_=>by simp [lK]
 | (a,cs)::r,[],n=>by simp [lK]
 | (a,cs)::r,v::vss,n=>by simp [lK,HZ s r vss]

theorem Ha (s:Nat):∀ (ps:List (Bool×List CS)) (n:Nat),(lK s ps n).length=ps.length
 | [],_=>rfl
 | (_,_)::r,n=>by simp [lK,Ha s r]

theorem QJ (s:Nat)(ps:List (Bool×List CS))(n:Nat):(lK s ps n).all (fun p=>p.2.all (fun c=> !c.isO))=true:=by
 refine List.all_eq_true.2 fun p hp=>xK fun c hc=>?_
 have:c∈(lK s ps n).flatMap (·.2):=List.mem_flatMap.2 ⟨p,hp,hc⟩
 rw [CJ] at this
 exact sH _ _ _ c this

variable (hw:WOk w0 own0 cx own w)(hL:∀ z,SlotOk w cx own env (tvA a) z (L z))(hg:∀ gs b,g=some (gs,b)→env gs=[.bool b])
 (hod:o.dst=some d)(hd:d<a.tmps.size)(hn:∀ d sh,u.dst=some (d,sh)→sh.names d=false)(hp:pstep p env=some env')
include hw hL hg hod hd hn hp

theorem BA {x:Operand}(hr:∀ w2:World,(execOp a.eval o).run P w2= .ok (.value (a.eval x)) w2)(hc:HH L g d x=some (u,p)):jL P cx own w a env o u env':=by
 unfold HH at hc
 split at hc
 ·-- a constant
  rename_i v
  split at hc
  ·rename_i hk
   simp only [bS,Option.some.injEq,Prod.mk.injEq] at hc
   obtain ⟨rfl,rfl⟩:=hc
   simp only [pstep,Option.some.injEq] at hp
   subst hp
   refine dH hw hod hd (hn _ _ rfl) ?_ hr (wJ hd (wI hk d 0))
   simp only [Sh.noOwn,List.all_cons,List.all_nil,Bool.and_true]
   unfold hY
   split<;>rfl
  ·cases hc
 ·rename_i s
  have hs:=eV hL hg s
  split at hc
  ·rename_i ag cs he
   simp only [bS,Option.some.injEq,Prod.mk.injEq] at hc
   obtain ⟨rfl,rfl⟩:=hc
   simp only [pstep,Option.some.injEq] at hp
   subst hp
   rw [he] at hs
   obtain ⟨vs,h1,h2,h3⟩:=hs
   refine dH hw hod hd (hn _ _ rfl) (xK (sH _ _ _)) hr ⟨vs,?_,h2,?_⟩
   ·rw [aQ a d _ hd,if_pos rfl];exact h1
   ·rw [aI]
    exact All3.alias (n:=0) (h3.imp fun i c d v h=>by rw [Nat.zero_add];exact h)
  ·rename_i ro cs he
   simp only [bS,Option.some.injEq,Prod.mk.injEq] at hc
   obtain ⟨rfl,rfl⟩:=hc
   simp only [pstep,Option.some.injEq] at hp
   subst hp
   rw [he] at hs
   obtain ⟨gg,cur,T,h1,_⟩:=hs
   have hsd:s≠d:=fun e=>by have:=hn _ _ rfl;simp [Sh.names,e] at this
   have:=dH (env:=env) (c:=env d) hw hod hd (hn _ _ rfl) rfl hr (sh:= .pt s 0) (by
    refine ⟨gg,?_,?_⟩
    ·rw [aQ a d _ hd,if_neg hsd];exact h1
    ·rw [aQ a d _ hd,if_pos rfl];exact h1)
   rwa [DD] at this
  ·rename_i b off he
   simp only [bS,Option.some.injEq,Prod.mk.injEq] at hc
   obtain ⟨rfl,rfl⟩:=hc
   simp only [pstep,Option.some.injEq] at hp
   subst hp
   rw [he] at hs
   obtain ⟨gg,h1,h2⟩:=hs
   have hsd:b≠d:=fun e=>by have:=hn _ _ rfl;simp [Sh.names,e] at this
   have:=dH (env:=env) (c:=env d) hw hod hd (hn _ _ rfl) rfl hr (sh:= .pt b off) (by
    refine ⟨gg,?_,?_⟩
    ·rw [aQ a d _ hd,if_neg hsd];exact h1
    ·rw [aQ a d _ hd,if_pos rfl];exact h2)
   rwa [DD] at this
  ·rename_i c off he
   simp only [bS,Option.some.injEq,Prod.mk.injEq] at hc
   obtain ⟨rfl,rfl⟩:=hc
   simp only [pstep,Option.some.injEq] at hp
   subst hp
   rw [he] at hs
   obtain ⟨xs,k,n,g1,o0,sz,len,cap,h1,h2,h3,h4,h5,h6,h7⟩:=hs
   refine dH hw hod hd (hn _ _ rfl) rfl hr ⟨xs,k,n,g1,o0,sz,len,cap,?_,h2,h3,h4,h5,?_,?_⟩
   ·rw [aI];exact h1
   ·cases c<;>first | exact h6 | exact absurd rfl (h5 _ _)
   ·rw [aQ a d _ hd,if_pos rfl];exact h7
  ·rename_i b es off he
   simp only [bS,Option.some.injEq,Prod.mk.injEq] at hc
   obtain ⟨rfl,rfl⟩:=hc
   simp only [pstep,Option.some.injEq] at hp
   subst hp
   rw [he] at hs
   obtain ⟨k,n,g1,h1,h2,h3,h4⟩:=hs
   have hsd:b≠d:=fun e=>by have:=hn _ _ rfl;simp [Sh.names,e] at this
   refine dH hw hod hd (hn _ _ rfl) rfl hr ⟨k,n,g1,?_,h2,?_,?_⟩
   ·rw [aI];exact h1
   ·rw [aQ a d _ hd,if_neg hsd];exact h3
   ·rw [aQ a d _ hd,if_pos rfl];exact h4
  ·rename_i f deps he
   simp only [bS,Option.some.injEq,Prod.mk.injEq] at hc
   obtain ⟨rfl,rfl⟩:=hc
   simp only [pstep,Option.some.injEq] at hp
   subst hp
   rw [he] at hs
   obtain ⟨fs,cs,h1,h2⟩:=hs
   refine dH hw hod hd (hn _ _ rfl) rfl hr ⟨fs,cs,?_,?_⟩
   ·rw [aI];exact h1
   ·rw [aQ a d _ hd,if_pos rfl];exact h2
  ·rename_i ps he
   simp only [bS,Option.some.injEq,Prod.mk.injEq] at hc
   obtain ⟨rfl,rfl⟩:=hc
   simp only [pstep,Option.some.injEq] at hp
   subst hp
   rw [he] at hs
   obtain ⟨vss,h1,h2,h3,h4⟩:=hs
   refine dH hw hod hd (hn _ _ rfl) (QJ _ _ _) hr ⟨vss,?_,?_,?_,?_⟩
   ·rw [aQ a d _ hd,if_pos rfl,HZ];exact h1
   ·rw [Ha];exact h2
   ·intro i q vs hq hv
    obtain ⟨p,hpp,h5,h6⟩:=HY _ _ _ _ _ hq
    obtain ⟨h7,h8⟩:=h3 i p vs hpp hv
    exact ⟨h7.trans h6.symm,fun h=>h8 (h5▸h)⟩
   ·rw [CJ,aI]
    exact All3.alias (n:=0) (h4.imp fun i c d v h=>by rw [Nat.zero_add];exact h)
  ·cases hc
 ·rename_i f
  simp only [bS,Option.some.injEq,Prod.mk.injEq] at hc
  obtain ⟨rfl,rfl⟩:=hc
  simp only [pstep,Option.some.injEq,List.map_nil] at hp
  subst hp
  refine dH hw hod hd (hn _ _ rfl) rfl hr ⟨[],[],?_,?_⟩
  ·rw [aI]
  ·rw [aQ a d _ hd,if_pos rfl]
   exact .fn f [] [] [] [] (fun _ _=>undef) rfl rfl (fun i p vs h=>by simp at h) (fun i p vs j d v h=>by simp at h) (fun i c g h=>by simp at h) (fun i c g j d h=>by simp at h) (fun i c g j d h=>by simp at h)
 ·cases hc

end

end
section

section
variable {P:Program}{C:Cfg}{w0:World}{own0:Own}{cx:Cx}{own:Own}{w:World}{a:Act}{env env':Env}{L:Look}{g:Gd}{o:Oper}{u:Up}{p:PS}{d:Nat}

theorem Scal.int' {k:IntKind}{n:Int}{v:Value}(h:Scal (.int k n) v):v= .int k n:=by cases h;rfl
theorem Scal.bool' {b:Bool}{v:Value}(h:Scal (.bool b) v):v= .bool b:=by cases h;rfl
theorem Scal.str' {s:ByteArray}{v:Value}(h:Scal (.str s) v):v= .string s:=by cases h;rfl

theorem Scal.inj {d:D}{v v':Value}(h:Scal d v)(h':Scal d v'):v=v':=by cases h<;>cases h'<;>rfl

theorem TE (P:Program)(w:World)(t:TypeId)(op:BinOp){x y z:D}{vx vy:Value}(hx:Scal x vx)(hy:Scal y vy)(h:BR op x y=some z):
    ∃ vz,(binOp op t vx vy).run P w= .ok vz w∧Scal z vz:=by
  cases hx with
  | int k n=>
    cases hy with
    | int k' m=>
      simp only [BR] at h
      by_cases hs:op= .shl∨op= .shr
      · rcases hs with rfl | rfl
        · simp only [Lj] at h
          by_cases hm:m<0
          · rw [if_pos hm] at h;cases h
          · rw [if_neg hm] at h
            simp only [Option.some.injEq] at h
            subst h
            exact ⟨_,by simp [binOp,Op.shift,hm],.int _ _⟩
        · simp only [Lj] at h
          by_cases hm:m<0
          · rw [if_pos hm] at h;cases h
          · rw [if_neg hm] at h
            simp only [Option.some.injEq] at h
            subst h
            exact ⟨_,by simp [binOp,Op.shift,hm],.int _ _⟩
      · by_cases hk:k=k'
        · subst hk
          cases op<;>first
            | (exact absurd (Or.inl rfl) hs)
            | (exact absurd (Or.inr rfl) hs)
            | (simp only [if_true,EL,WZ,Option.some.injEq,reduceCtorEq] at h;subst h;exact ⟨_,by simp only [binOp,ne_eq,not_true_eq_false,if_false];rfl,.int _ _⟩)
            | (simp only [if_true,EL,WZ,Option.some.injEq,reduceCtorEq] at h;subst h;exact ⟨_,by simp [binOp,Op.intCmp],.bool _⟩)
            | (simp only [if_true,EL] at h
               by_cases hm:m=0
               · rw [if_pos hm] at h;cases h
               · rw [if_neg hm] at h
                 simp only [Option.some.injEq] at h
                 subst h
                 exact ⟨_,by simp [binOp,Op.intDiv,hm],.int _ _⟩)
        · exfalso
          cases op<;>first
            | (exact absurd (Or.inl rfl) hs)
            | (exact absurd (Or.inr rfl) hs)
            | (simp only [if_neg hk,reduceCtorEq] at h)
    | bool b=>simp [BR] at h
    | str s=>simp [BR] at h
  | bool b=>cases hy<;>simp [BR] at h
  | str s=>
    cases hy with
    | str t'=>
      simp only [BR] at h
      cases op<;>simp only [QH,reduceCtorEq,Option.some.injEq] at h
      · by_cases hl:s.size+t'.size≤lim
        · rw [if_pos hl] at h
          simp only [Option.some.injEq] at h
          subst h
          refine ⟨_,?_,.str _⟩
          have:¬(((s.size+t'.size:Nat):Int)>IntKind.i64.max):=by
            have:IntKind.i64.max=9223372036854775807:=by decide
            rw [this]
            simp only [lim] at hl
            omega
          simp only [binOp,Op.stringOp,this,if_false]
          rfl
        · rw [if_neg hl] at h;cases h
      · subst h;exact ⟨_,by simp [binOp,Op.stringOp],.bool _⟩
      · subst h;exact ⟨_,by simp [binOp,Op.stringOp],.bool _⟩
    | int k n=>simp [BR] at h
    | bool b=>simp [BR] at h

theorem xL (P:Program)(w:World)(op:BinOp)(t:TypeId)(x y:Operand){dx:D}{vx vy:Value}(hx:Scal dx vx):(eqGuard op t x y vx vy).run P w= .ok () w:=by
  cases hx<;>cases op<;>simp [eqGuard]

theorem TyOk.bool {t:Nat}{ti:TI}(h:TyOk P t ti)(hd:ti.desc= .bool):P.underlying t=some .bool:=by
  have:=h.desc
  obtain ⟨d,hu⟩:=h.und
  rw [hd,hu] at this
  cases d<;>simp only [descChk,Bool.false_eq_true] at this
  exact hu

variable (hC:CfgOk P C)(hw:WOk w0 own0 cx own w)(hL:∀ z,SlotOk w cx own env (tvA a) z (L z))(hg:∀ gs b,g=some (gs,b)→env gs=[.bool b])
  (hod:o.dst=some d)(hd:d<a.tmps.size)(hn:∀ d sh,u.dst=some (d,sh)→sh.names d=false)(hp:pstep p env=some env')
include hw hL hg hod hd hn hp

theorem TF {c x y:Operand}(ho:o.op= .pick c x y)(hc:WK L d g c x y=some (u,p)):jL P cx own w a env o u env':=by
  unfold WK at hc
  split at hc
  · rename_i tc
    split at hc
    · rename_i hk
      simp only [Bool.and_eq_true,Bool.or_eq_true] at hk
      simp only [bS,Option.some.injEq,Prod.mk.injEq] at hc
      obtain ⟨rfl,rfl⟩:=hc
      obtain ⟨dc,vc,h1,h2,h3⟩:=EJ hL hg hk.1.1
      simp only [pstep,h2] at hp
      split at hp
      · rename_i t he
        simp only [List.cons.injEq,and_true] at he
        subst he
        simp only [Option.some.injEq] at hp
        subst hp
        have hv:=h3.bool'
        subst hv
        have hgt:∀ gs b,(some (tc,t):Gd)=some (gs,b)→env gs=[.bool b]:=by
          intro gs b he
          simp only [Option.some.injEq,Prod.mk.injEq] at he
          obtain ⟨rfl,rfl⟩:=he
          exact h2
        have hr:∀ v,(if t then a.eval x else a.eval y)=v→∀ w2:World,(execOp a.eval o).run P w2= .ok (.value v) w2:=by
          intro v hv w2
          subst hv
          unfold execOp
          simp only [ho,h1,asBool,Sem.run_bind,Sem.run_pure,Result.andThen_ok]
        cases t with
        | true=>
          obtain ⟨dx,vx,h4,h5,h6⟩:∃ dx vx,a.eval x=vx∧(cC x).get env=[dx]∧Scal dx vx:=by
            rcases hk.1.2 with h | h
            · exact EJ hL hgt h
            · exact EJ hL hg h
          simp only [if_true,h5]
          exact hZ hw hod hd (hr _ (by simpa using h4)) h6
        | false=>
          obtain ⟨dx,vx,h4,h5,h6⟩:∃ dx vx,a.eval y=vx∧(cC y).get env=[dx]∧Scal dx vx:=by
            rcases hk.2 with h | h
            · exact EJ hL hgt h
            · exact EJ hL hg h
          simp only [Bool.false_eq_true,if_false,h5]
          exact hZ hw hod hd (hr _ (by simpa using h4)) h6
      · cases hp
    · cases hc
  · cases hc

omit hn in
theorem Wd {op:BinOp}{t t2:TypeId}{x y:Operand}(ho:o.op= .binOp op t x y t2)(hx:scal L g x=true)(hy:scal L g y=true)(hpp:p= .bin d op (cC x) (cC y)):
    jL P cx own w a env o {dst:=some (d,.v false [.s]) } env':=by
  subst hpp
  obtain ⟨dx,vx,h1,h2,h3⟩:=EJ hL hg hx
  obtain ⟨dy,vy,h4,h5,h6⟩:=EJ hL hg hy
  simp only [pstep,h2,h5,Jn,Option.map_map,Option.map_eq_some_iff] at hp
  obtain ⟨z,hz,rfl⟩:=hp
  obtain ⟨vz,hr,hs⟩:=TE P w t op h3 h6 hz
  refine hZ hw hod hd (fun w2=>?_) hs
  obtain ⟨vz2,hr,hs2⟩:=TE P w2 t op h3 h6 hz
  obtain rfl:=hs.inj hs2
  unfold execOp
  simp only [ho,h1,h4,Sem.run_bind,xL P w2 op t x y h3,Result.andThen_ok,hr,Sem.run_pure]

omit hn in
theorem Lk {op:BinOp}{neg:Bool}{t t2:TypeId}{x y:Operand}(ht:P.underlying t=some .bool)(hop:(op= .eql∧neg=false)∨(op= .neq∧neg=true))(ho:o.op= .binOp op t x y t2)(hx:scal L g x=true)(hy:scal L g y=true)(hpp:p= .beq d neg (cC x) (cC y)):
    jL P cx own w a env o {dst:=some (d,.v false [.s]) } env':=by
  subst hpp
  obtain ⟨dx,vx,h1,h2,h3⟩:=EJ hL hg hx
  obtain ⟨dy,vy,h4,h5,h6⟩:=EJ hL hg hy
  simp only [pstep,h2,h5] at hp
  split at hp
  · rename_i b c he1 he2
    simp only [List.cons.injEq,and_true] at he1 he2
    subst he1;subst he2
    simp only [Option.some.injEq] at hp
    subst hp
    have hv1:=h3.bool'
    have hv2:=h6.bool'
    subst hv1;subst hv2
    refine hZ hw hod hd (fun w2=>?_) (.bool _)
    unfold execOp
    rcases hop with ⟨rfl,rfl⟩ | ⟨rfl,rfl⟩
    · simp only [ho,h1,h4,Sem.run_bind,xL P w2 _ t x y h3,Result.andThen_ok,binOp,Op.equal,Op.maxDepth,run_equalIn_bool' w2 _ t b c ht,Sem.run_pure]
      cases b<;>cases c<;>rfl
    · simp only [ho,h1,h4,Sem.run_bind,xL P w2 _ t x y h3,Result.andThen_ok,binOp,Op.equal,Op.maxDepth,run_equalIn_bool' w2 _ t b c ht,Sem.run_pure]
      cases b<;>cases c<;>rfl
  · cases hp

omit hn in
theorem aB3 {op:UnOp}{t:TypeId}{x:Operand}(ho:o.op= .unOp op t x)(hx:scal L g x=true)(hpp:p= .un d op (cC x)):
    jL P cx own w a env o {dst:=some (d,.v false [.s]) } env':=by
  subst hpp
  obtain ⟨dx,vx,h1,h2,h3⟩:=EJ hL hg hx
  simp only [pstep,h2,one,Option.map_map,Option.map_eq_some_iff] at hp
  obtain ⟨z,hz,rfl⟩:=hp
  have:∃ vz,(∀ w2:World,(Op.unary op vx).run P w2= .ok vz w2)∧Scal z vz:=by
    unfold unV at hz
    split at hz
    · simp only [Option.some.injEq] at hz
      subst hz
      have:=h3.int'
      subst this
      exact ⟨_,fun w2=>by simp [Op.unary,Op.intArith],.int _ _⟩
    · simp only [Option.some.injEq] at hz
      subst hz
      have:=h3.bool'
      subst this
      exact ⟨_,fun w2=>by simp [Op.unary],.bool _⟩
    · cases hz
  obtain ⟨vz,hr,hs⟩:=this
  refine hZ hw hod hd (fun w2=>?_) hs
  unfold execOp
  simp only [ho,h1,Sem.run_bind,hr w2,Result.andThen_ok,Sem.run_pure]

end

end
section

section
variable {P:Program}{C:Cfg}{w0:World}{own0:Own}{cx:Cx}{own:Own}{w:World}{a:Act}{env env':Env}{L:Look}{g:Gd}{o:Oper}{u:Up}{p:PS}{d:Nat}

theorem Rep.slice {S:Nat→Nat→Prop}{xs:List (List D)}{v:Value}(h:Rep w S (.sl xs) v):
  (xs=[]∧∃ A cap,v= .slice A 0 cap)∨(∃ (gg off sz cap:Nat) (vs:Nat→Nat→Value),v= .slice (some ⟨gg,off,none⟩) xs.length cap∧xs.length≤cap∧(∀ x∈xs,x.length=sz)∧
   (∀ (i:Nat) (x:List D) (j:Nat) (d:D),xs[i]? =some x→x[j]? =some d→w.cell? ⟨gg,off+i*sz+j,none⟩=some (vs i j))∧
   (∀ (i:Nat) (x:List D) (j:Nat) (d:D),xs[i]? =some x→x[j]? =some d→S gg (off+i*sz+j))∧
   (∀ (i:Nat) (x:List D) (j:Nat) (d:D),xs[i]? =some x→x[j]? =some d→Rep w S d (vs i j))):=by
 cases h with
 | scal h=>cases h
 | nil A cap=>exact .inl ⟨rfl,A,cap,rfl⟩
 | sl _ gg off sz cap vs h1 h2 h3 h4 h5=>exact .inr ⟨gg,off,sz,cap,vs,rfl,h1,h2,h3,h4,h5⟩

theorem Rep.slice' {S:Nat→Nat→Prop}{xs:List (List D)}{v:Value}(h:Rep w S (.sl xs) v):∃ A cap,v= .slice A xs.length cap∧xs.length≤cap:=by
 rcases h.slice with ⟨rfl,A,cap,rfl⟩ | ⟨gg,off,sz,cap,vs,rfl,h1,_⟩
 ·exact ⟨A,cap,rfl,Nat.zero_le _⟩
 ·exact ⟨_,cap,rfl,h1⟩

theorem opL (hL:∀ z,SlotOk w cx own env (tvA a) z (L z))(hg:∀ gs b,g=some (gs,b)→env gs=[.bool b]){x:Operand}{c:CS}(h:kU L g x=some c):
  ∃ d v s,a.eval x=v∧(cC x).get env=[d]∧(∀ t,x= .tmp t→s=t)∧aS w cx own s 0 c d v∧zU c=true∧c≠ .s:=by
 unfold kU at h
 split at h
 ·rename_i c' he
  split at h
  ·rename_i hr
   simp only [Option.some.injEq] at h
   subst h
   obtain ⟨d,v,s,h1,h2,h3,h4⟩:=op1 hL hg he
   exact ⟨d,v,s,h1,h2,h3,h4,hr.1,hr.2⟩
  ·cases h
 ·cases h

theorem QK {t:TypeId}{x i:Operand}(ho:o.op= .index t x i)(hu:P.underlying t=some .string){s:ByteArray}{k:IntKind}{n:Int}{b:UInt8}(hx:a.eval x= .string s)(hi:a.eval i= .int k n)(h0:0≤n)(hb:s[n.toNat]? =some b):
  (execOp a.eval o).run P w= .ok (.value (.int .u8 b.toNat)) w:=by
 unfold execOp
 simp only [ho,Instr.index,hx,hi,asIntOf,Sem.run_bind,Sem.run_pure,Result.andThen_ok,run_underlying hu,if_pos h0,hb]

theorem All3.part {s off n:Nat}{cs:List CS}{ds:List D}{vs:List Value}(h:All3 (aS w cx own s) cs ds vs)(hl:off+n≤ds.length):
  All3 (fun i=>aS w cx own s (off+i)) ((cs.drop off).take n) ((ds.drop off).take n) ((vs.drop off).take n):=by
 obtain ⟨h1,h2,h3⟩:=h
 refine ⟨by simp only [List.length_take,List.length_drop];omega,by simp only [List.length_take,List.length_drop];omega,fun i c x v hc hx hv=>?_⟩
 have hi:i<n:=by
  have:=(List.getElem?_eq_some_iff.1 hc).1
  rw [List.length_take] at this
  omega
 rw [List.getElem?_take,if_pos hi,List.getElem?_drop] at hc hx hv
 exact h3 _ c x v hc hx hv

variable (hC:CfgOk P C)(hw:WOk w0 own0 cx own w)(hL:∀ z,SlotOk w cx own env (tvA a) z (L z))(hg:∀ gs b,g=some (gs,b)→env gs=[.bool b])
 (hod:o.dst=some d)(hd:d<a.tmps.size)(hn:∀ d sh,u.dst=some (d,sh)→sh.names d=false)(hp:pstep p env=some env')
include hC hw hL hg hod hd hn hp

theorem NJ {t:TypeId}{x i:Operand}(ho:o.op= .index t x i)(hc:Py C L g d t x i=some (u,p)):jL P cx own w a env o u env':=by
 unfold Py at hc
 split at hc
 ·rename_i ti hti
  split at hc
  ·rename_i hde
   split at hc
   ·rename_i hk
    simp only [Bool.and_eq_true] at hk
    simp only [bS,Option.some.injEq,Prod.mk.injEq] at hc
    obtain ⟨rfl,rfl⟩:=hc
    obtain ⟨dx,vx,h1,h2,h3⟩:=EJ hL hg hk.1
    obtain ⟨dy,vy,h4,h5,h6⟩:=EJ hL hg hk.2
    simp only [pstep,h2,h5] at hp
    split at hp
    ·rename_i s k n he1 he2
     simp only [List.cons.injEq,and_true] at he1 he2
     subst he1;subst he2
     by_cases h0:0≤n
     ·rw [if_pos h0] at hp
      split at hp
      ·rename_i b hb
       simp only [Option.some.injEq] at hp
       subst hp
       have hv1:=h3.str'
       have hv2:=h6.int'
       subst hv1;subst hv2
       exact hZ hw hod hd (fun w2=>QK (P:=P) (w:=w2) ho ((hC t ti hti).str hde) h1 h4 h0 hb) (.int _ _)
      ·cases hp
     ·rw [if_neg h0] at hp;cases hp
    ·cases hp
   ·cases hc
  ·cases hc
 ·cases hc

theorem Hb {x:Operand}{k:Nat}(ho:o.op= .extract x k)(hc:HK L g d x k=some (u,p)):jL P cx own w a env o u env':=by
 unfold HK at hc
 split at hc
 ·rename_i s
  have hs:=eV hL hg s
  split at hc
  ·rename_i ps he
   rw [he] at hs
   obtain ⟨vss,h1,h2,h3,h4⟩:=hs
   split at hc
   ·rename_i ag cs hps
    simp only [bS,Option.some.injEq,Prod.mk.injEq] at hc
    obtain ⟨rfl,rfl⟩:=hc
    simp only [pstep] at hp
    split at hp
    ·rename_i hlen
     simp only [Option.some.injEq] at hp
     subst hp
     have hk:k<vss.length:=by
      rw [h2]
      exact (List.getElem?_eq_some_iff.1 hps).1
     have hv:vss[k]? =some vss[k]:=List.getElem?_eq_getElem hk
     obtain ⟨h5,h6⟩:=h3 k _ _ hps hv
     have hr:∀ w2:World,(execOp a.eval o).run P w2= .ok (.value (wrapV ag vss[k])) w2:=by
      intro w2
      unfold execOp
      simp only [ho,Instr.extract,zY,h1,Sem.run_bind]
      have:(List.zipWith (fun (p:Bool×List CS) vs=>wrapV p.1 vs) ps vss).toArray[k]? =some (wrapV ag vss[k]):=by
       rw [List.getElem?_toArray,List.getElem?_zipWith,hps,hv]
      rw [this]
      simp only [Sem.run_pure,Result.andThen_ok]
     refine dH hw hod hd (hn _ _ rfl) (xK (sH _ _ _)) hr ⟨vss[k],?_,h6,?_⟩
     ·rw [aQ a d _ hd,if_pos rfl]
     ·rw [aI]
      -- the cells of one part
      have hsplit:∀ (qs:List (Bool×List CS)) (wss:List (List Value)) (k:Nat) (q:Bool×List CS) (ws:List Value),qs[k]? =some q→wss[k]? =some ws→
        (∀ (i:Nat) (p:Bool×List CS) (vs:List Value),qs[i]? =some p→wss[i]? =some vs→vs.length=p.2.length)→
        ∀ (j:Nat),j<q.2.length→(qs.flatMap (·.2))[((qs.take k).flatMap (·.2)).length+j]? =q.2[j]? ∧wss.flatten[((qs.take k).flatMap (·.2)).length+j]? =ws[j]? :=by
       intro qs
       induction qs with
       | nil=>intro wss k q ws h;simp at h
       | cons q0 qs ih=>
        intro wss k q ws hq hw' hlen j hj
        match wss,k with
        | [],k=>simp at hw'
        | w0::wss,0=>
         simp only [List.getElem?_cons_zero,Option.some.injEq] at hq hw'
         subst hq;subst hw'
         have hl:=hlen 0 q0 w0 rfl rfl
         simp only [List.take_zero,List.flatMap_nil,List.length_nil,Nat.zero_add,List.flatMap_cons,List.flatten_cons]
         exact ⟨List.getElem?_append_left hj,List.getElem?_append_left (by omega)⟩
        | w0::wss,k+1=>
         have hl:=hlen 0 q0 w0 rfl rfl
         simp only [List.getElem?_cons_succ] at hq hw'
         have:=ih wss k q ws hq hw' (fun i p vs hp hv=>hlen (i+1) p vs (by simpa using hp) (by simpa using hv)) j hj
         simp only [List.take_succ_cons,List.flatMap_cons,List.length_append,List.flatten_cons]
         rw [List.getElem?_append_right (by omega),List.getElem?_append_right (by omega)]
         constructor
         ·rw [←this.1];congr 1;omega
         ·rw [←this.2];congr 1;omega
      have hsp:=hsplit ps vss k _ _ hps hv (fun i p vs hp hv=>(h3 i p vs hp hv).1)
      refine All3.alias (n:=((ps.take k).flatMap (·.2)).length) ⟨?_,?_,fun i c x v hc hx hv'=>?_⟩
      ·rw [List.length_take,List.length_drop,Nat.min_eq_left (by omega)]
      ·rw [List.length_take,List.length_drop,Nat.min_eq_left (by omega)];exact h5
      ·have hi:i<cs.length:=(List.getElem?_eq_some_iff.1 hc).1
       obtain ⟨h7,h8⟩:=hsp i hi
       rw [List.getElem?_take,if_pos hi,List.getElem?_drop] at hx
       exact h4.2.2 _ c x v (h7.trans hc) hx (h8.trans hv')
    ·cases hp
   ·cases hc
  ·cases hc
 ·cases hc

theorem NK {t:TypeId}{x:Operand}{k:Nat}(ho:o.op= .field t x k)(hc:Lf C L g d t k x=some (u,p)):jL P cx own w a env o u env':=by
 unfold Lf at hc
 split at hc
 ·rename_i ti s hti
  have hs:=eV hL hg s
  split at hc
  ·rename_i fs cs hde he
   rw [he] at hs
   split at hc
   ·rename_i off ft hfs
    split at hc
    ·rename_i fi hfi
     split at hc
     ·rename_i hlen
      simp only [bS,Option.some.injEq,Prod.mk.injEq] at hc
      obtain ⟨rfl,rfl⟩:=hc
      simp only [pstep] at hp
      split at hp
      ·rename_i hle
       simp only [Option.some.injEq] at hp
       subst hp
       obtain ⟨vs,h1,_,h3⟩:=hs
       obtain ⟨fields,f,hu,hff,ho1,ho2⟩:=(hC t ti hti).field hde hfs
       have hvl:vs.length=(env s).length:=h3.2.1
       have hone:fi.agg=false→((vs.drop off).take fi.size).length=1:=by
        intro hagg
        have:=(hC ft fi hfi).one hagg
        rw [List.length_take,List.length_drop]
        omega
       have hr:∀ w2:World,(execOp a.eval o).run P w2= .ok (.value (wrapV fi.agg ((vs.drop off).take fi.size))) w2:=by
        intro w2
        have hsz:=(hC ft fi hfi).size w2
        have hag:=(hC ft fi hfi).isAgg w2
        unfold execOp
        simp only [ho,Instr.field,zY,h1,Sem.run_bind,run_underlying hu,Result.andThen_ok,hff,asAgg,wrapV,Sem.run_pure,part,ho1,ho2,hag]
        cases hagg:fi.agg with
        | true=>simp [hsz,wrapV,List.drop_take]
        | false=>
         have h1s:=(hC ft fi hfi).one hagg
         have hlt:off<vs.length:=by omega
         have:(vs.drop off).take fi.size=[vs[off]]:=by
          rw [h1s,List.drop_eq_getElem_cons hlt]
          rfl
         simp [this,wrapV,hlt]
       refine dH hw hod hd (hn _ _ rfl) (xK (sH _ _ _)) hr ⟨(vs.drop off).take fi.size,?_,hone,?_⟩
       ·rw [aQ a d _ hd,if_pos rfl]
       ·rw [aI]
        exact All3.alias (n:=off) (All3.part h3 hle)
      ·cases hp
     ·cases hc
    ·cases hc
   ·cases hc
  ·cases hc
 ·cases hc

end

end
section

section
variable {P:Program}{C:Cfg}{w0:World}{own0:Own}{cx:Cx}{own:Own}{w:World}{a:Act}{env env':Env}{L:Look}{g:Gd}{o:Oper}{u:Up}{p:PS}{d:Nat}

theorem Ll {t:Nat}{ti:TI}(h:TyOk P t ti){k:IntKind}(hd:ti.desc= .int k):∀ w:World,(underlying t).run P w= .ok (.int k) w:=fun w=>run_underlying (h.int hd) w

theorem KU (hC:CfgOk P C){t:Nat}(h:C.isByte t=true):P.underlying t=some (.int .u8):=by
 unfold Cfg.isByte at h
 split at h
 ·rename_i ti hti
  split at h
  ·rename_i hd
   exact (hC t ti hti).int hd
  ·cases h
 ·cases h

theorem Lm {n:Int}(h0:0≤n)(h1:n<128):Utf8.encode n=⟨#[UInt8.ofNat n.toNat]⟩:=by
 unfold Utf8.encode
 have hv:Utf8.valid n=true:=by simp [Utf8.valid];omega
 have:n.toNat<0x80:=by omega
 simp only [hv,if_true,if_pos this]

theorem KV:∀ {xs:List (List D)} {l:List UInt8},Bc xs=some l→l.length=xs.length
 | [],l,h=>by simp only [Bc,Option.some.injEq] at h;subst h;rfl
 | x::r,l,h=>by
  simp only [Bc] at h
  split at h
  ·rename_i b l' _ h2
   simp only [Option.some.injEq] at h
   subst h
   simp [KV h2]
  ·cases h

theorem KW:∀ {xs:List (List D)} {l:List UInt8},Bc xs=some l→∀ (i:Nat) (b:UInt8),l[i]? =some b→∃ n,xs[i]? =some [.int .u8 n]∧b=UInt8.ofNat n.toNat
 | [],l,h,i,b,hb=>by simp only [Bc,Option.some.injEq] at h;subst h;simp at hb
 | x::r,l,h,i,b,hb=>by
  simp only [Bc] at h
  split at h
  ·rename_i b' l' h1 h2
   simp only [Option.some.injEq] at h
   subst h
   cases i with
   | zero=>
    simp only [List.getElem?_cons_zero,Option.some.injEq] at hb
    subst hb
    unfold Wa at h1
    split at h1
    ·rename_i n
     simp only [Option.some.injEq] at h1
     exact ⟨n,rfl,h1.symm⟩
    ·cases h1
   | succ i=>
    simp only [List.getElem?_cons_succ] at hb ⊢
    exact KW h2 i b hb
  ·cases h

theorem Bf (P:Program)(w:World)(f:Value→ByteArray→Sem (ForInStep ByteArray))(hf:∀ n r,f (.int .u8 n) r=Pure.pure (ForInStep.yield (r.push (UInt8.ofNat n.toNat)))):
  ∀ (cs:List Value) (l:List UInt8) (acc:ByteArray),(cs.length=l.length)→(∀ (i:Nat) (b:UInt8),l[i]? =some b→∃ n:Int,cs[i]? =some (.int .u8 n)∧b=UInt8.ofNat n.toNat)→
  (forIn cs acc f).run P w= .ok (acc++⟨l.toArray⟩) w
 | [],[],acc,_,_=>by
  simp only [List.forIn_nil,Sem.run_pure]
  congr 1
  apply ByteArray.ext
  simp
 | c::cs,b::l,acc,hl,h=>by
  obtain ⟨n,h1,h2⟩:=h 0 b rfl
  simp only [List.getElem?_cons_zero,Option.some.injEq] at h1
  subst h1
  simp only [List.forIn_cons,hf,Sem.run_bind,Sem.run_pure,Result.andThen_ok]
  rw [Bf P w f hf cs l _ (by simpa using hl) (fun i b hb=>by
   have:=h (i+1) b (by simpa using hb)
   simpa using this)]
  congr 1
  subst h2
  apply ByteArray.ext
  simp
 | [],_::_,_,hl,_=>by simp at hl
 | _::_,[],_,hl,_=>by simp at hl

theorem DF {S:Nat→Nat→Prop}{xs:List (List D)}{l:List UInt8}{v:Value}(h:Rep w S (.sl xs) v)(hs:Bc xs=some l):
  (Conv.bytesToString v).run P w= .ok (.string ⟨l.toArray⟩) w:=by
 have hlen:=KV hs
 have hget:=KW hs
 rcases h.slice with ⟨rfl,A,cap,rfl⟩ | ⟨gg,off,sz,cap,vs,rfl,h1,h2,h3,h4,h5⟩
 ·have:l=[]:=List.eq_nil_of_length_eq_zero (by simpa using hlen)
  subst this
  cases A with
  | none=>simp [Conv.bytesToString];rfl
  | some A=>simp [Conv.bytesToString,loadCells,loadCellsFrom];rfl
 ·have hcells:(loadCells ⟨gg,off,none⟩ xs.length).run P w= .ok ((List.range xs.length).map fun i=>vs i 0).toArray w:=by
   refine run_loadCells (P:=P) w ⟨gg,off,none⟩ xs.length (fun i=>vs i 0) (fun j hj=>?_)
   obtain ⟨n,hx,_⟩:=hget j _ (List.getElem?_eq_getElem (by omega))
   have hsz:sz=1:=(h2 _ (List.mem_of_getElem? hx)).symm
   have:=h3 j _ 0 _ hx rfl
   rw [Addr.add_lit]
   subst hsz
   simpa using this
  simp only [Conv.bytesToString,Sem.run_bind,hcells,Result.andThen_ok]
  rw [←Array.forIn_toList,Bf P w _ (fun n r=>rfl) ((List.range xs.length).map fun i=>vs i 0) l ByteArray.empty (by simp [hlen]) (fun i b hb=>by
   obtain ⟨n,hx,hbn⟩:=hget i b hb
   have hi:i<xs.length:=by have:=(List.getElem?_eq_some_iff.1 hb).1;omega
   have h6:=h5 i _ 0 _ hx rfl
   refine ⟨n,?_,hbn⟩
   rw [List.getElem?_map,List.getElem?_range hi,Option.map_some]
   cases h6 with
   | scal h6=>exact congrArg some h6.int')]
  have he:(ByteArray.empty++⟨l.toArray⟩:ByteArray)=⟨l.toArray⟩:=by apply ByteArray.ext;simp
  rw [he]
  rfl

variable (hC:CfgOk P C)(hw:WOk w0 own0 cx own w)(hL:∀ z,SlotOk w cx own env (tvA a) z (L z))(hg:∀ gs b,g=some (gs,b)→env gs=[.bool b])
 (hod:o.dst=some d)(hd:d<a.tmps.size)(hn:∀ d sh,u.dst=some (d,sh)→sh.names d=false)(hp:pstep p env=some env')
include hC hw hL hg hod hd hn hp

theorem QL {src dst:TypeId}{x:Operand}(ho:o.op= .convert src dst x)(hns:∀ ti:TI,C.ty src=some ti→ti.desc≠ .str)(hc:Ct C L g d src dst x=some (u,p)):nM P cx own w a env o u env':=by
 unfold Ct at hc
 split at hc
 ·rename_i ta tb hta htb
  split at hc
  ·rename_i k0 k hd1 hd2
   split at hc
   ·rename_i hx
    simp only [bS,Option.some.injEq,Prod.mk.injEq] at hc
    obtain ⟨rfl,rfl⟩:=hc
    obtain ⟨dx,vx,h1,h2,h3⟩:=EJ hL hg hx
    simp only [pstep,h2] at hp
    split at hp
    ·rename_i k1 n he
     simp only [List.cons.injEq,and_true] at he
     subst he
     simp only [Option.some.injEq] at hp
     subst hp
     have hv:=h3.int'
     subst hv
     refine sG hw hod hd ?_ (.int _ _)
     unfold execOp
     simp only [ho,h1,convert,Sem.run_bind,Ll (hC src ta hta) hd1,Ll (hC dst tb htb) hd2,Result.andThen_ok,Conv.intToInt,Sem.run_pure]
    ·cases hp
   ·cases hc
  ·rename_i k0 hd1 hd2
   split at hc
   ·rename_i hx
    simp only [bS,Option.some.injEq,Prod.mk.injEq] at hc
    obtain ⟨rfl,rfl⟩:=hc
    obtain ⟨dx,vx,h1,h2,h3⟩:=EJ hL hg hx
    simp only [pstep,h2] at hp
    split at hp
    ·rename_i k1 n he
     simp only [List.cons.injEq,and_true] at he
     subst he
     split at hp
     ·rename_i hb
      simp only [Option.some.injEq] at hp
      subst hp
      have hv:=h3.int'
      subst hv
      refine sG hw hod hd ?_ (.str _)
      unfold execOp
      simp only [ho,h1,convert,Sem.run_bind,Ll (hC src ta hta) hd1,run_underlying ((hC dst tb htb).str hd2),Result.andThen_ok,Conv.intToString,Sem.run_pure,Lm hb.1 hb.2]
     ·cases hp
    ·cases hp
   ·cases hc
  ·rename_i e hd1 hd2
   exact absurd hd1 (hns ta hta)
  ·rename_i e hd1 hd2
   split at hc
   ·rename_i c hby hx
    simp only [bS,Option.some.injEq,Prod.mk.injEq] at hc
    obtain ⟨rfl,rfl⟩:=hc
    obtain ⟨dx,vx,s,h1,h2,h3,h4,h5,h6⟩:=opL hL hg hx
    simp only [pstep,h2] at hp
    split at hp
    ·rename_i xs he
     simp only [List.cons.injEq,and_true] at he
     subst he
     split at hp
     ·rename_i l hl
      simp only [Option.some.injEq] at hp
      subst hp
      refine sG hw hod hd ?_ (.str _)
      have hrep:=aS.rep h4 h5
      have hr:=DF (P:=P) hrep hl
      obtain ⟨A,cap,hv,_⟩:=hrep.slice'
      unfold execOp
      simp only [ho,h1,convert,Sem.run_bind,run_underlying ((hC src ta hta).slice hd1),run_underlying ((hC dst tb htb).str hd2),Result.andThen_ok]
      subst hv
      simp only [Sem.run_bind,run_underlying (KU hC hby),Result.andThen_ok,hr,Sem.run_pure]
     ·cases hp
    ·cases hp
   ·cases hc
  ·cases hc
 ·cases hc

end

end
section

section
variable {P:Program}{C:Cfg}{w0:World}{own0:Own}{cx:Cx}{own:Own}{w:World}{a:Act}{env env':Env}{L:Look}{g:Gd}{o:Oper}{u:Up}{p:PS}{d:Nat}

theorem fK {b:Builtin}{c:Call}(ho:o.op= .call c)(hb:c.callee= .builtin b):
  ∃ cs,(execOp a.eval o).run P w=(builtin b c.argTypes o.type cs (c.args.map a.eval)).run P w:=by
 refine ⟨c.args.map fun x=>match x with | .const _=>true | _=>false,?_⟩
 unfold execOp
 simp only [ho,resolve,hb,Sem.run_bind,Sem.run_pure,Result.andThen_ok,invoke]
 rfl

theorem CK (P:Program)(w:World)(isS:Bool)(len cap l h m:Nat)(lo hi mx:Option Value)
  (hlo:lo=none∧l=0∨∃ k,lo=some (.int k (l:Int)))(hhi:hi=none∧h=len∧mx=none∨∃ k,hi=some (.int k (h:Int)))
  (hmx:mx=none∧m=cap∨∃ k,mx=some (.int k (m:Int)))(h1:l≤h)(h2:h≤m)(h3:m≤cap):
  (Instr.sliceBounds isS len cap lo hi mx).run P w= .ok (l,h,m) w:=by
 have hm:(0:Int)≤(m:Int):=Int.natCast_nonneg _
 have hh:(0:Int)≤(h:Int):=Int.natCast_nonneg _
 have hl:(0:Int)≤(l:Int):=Int.natCast_nonneg _
 rcases hmx with ⟨rfl,rfl⟩ | ⟨km,rfl⟩
 ·rcases hhi with ⟨rfl,rfl,_⟩ | ⟨kh,rfl⟩
  ·rcases hlo with ⟨rfl,rfl⟩ | ⟨kl,rfl⟩
   ·simp [Instr.sliceBounds]
   ·simp only [Instr.sliceBounds,Sem.run_bind,Sem.run_pure,Result.andThen_ok,run_sliceBound w kl l h _ hl (by omega),Int.toNat_natCast]
  ·rcases hlo with ⟨rfl,rfl⟩ | ⟨kl,rfl⟩
   ·simp only [Instr.sliceBounds,Sem.run_bind,Sem.run_pure,Result.andThen_ok,run_sliceBound w kh h m _ hh (by omega),Int.toNat_natCast]
   ·simp only [Instr.sliceBounds,Sem.run_bind,Sem.run_pure,Result.andThen_ok,run_sliceBound w kh h m _ hh (by omega),run_sliceBound w kl l h _ hl (by omega),Int.toNat_natCast]
 ·rcases hhi with ⟨_,_,h4⟩ | ⟨kh,rfl⟩
  ·cases h4
  ·rcases hlo with ⟨rfl,rfl⟩ | ⟨kl,rfl⟩
   ·simp only [Instr.sliceBounds,Sem.run_bind,Sem.run_pure,Result.andThen_ok,run_sliceBound w km m cap _ hm (by omega),run_sliceBound w kh h m _ hh (by omega),Int.toNat_natCast]
   ·simp only [Instr.sliceBounds,Sem.run_bind,Sem.run_pure,Result.andThen_ok,run_sliceBound w km m cap _ hm (by omega),run_sliceBound w kh h m _ hh (by omega),run_sliceBound w kl l h _ hl (by omega),Int.toNat_natCast]

theorem Hc (hL:∀ z,SlotOk w cx own env (tvA a) z (L z))(hg:∀ gs b,g=some (gs,b)→env gs=[.bool b]){x:Option Operand}{dft n:Nat}
  (hs:Sw L g x=true)(hi:EM env (x.map cC) dft=some n):
  x.map a.eval=none∧n=dft∧x=none∨∃ k,x.map a.eval=some (.int k (n:Int)):=by
 cases x with
 | none=>
  simp only [EM,Option.map_none,Option.some.injEq] at hi
  exact .inl ⟨rfl,hi.symm,rfl⟩
 | some i=>
  obtain ⟨dx,vx,h1,h2,h3⟩:=EJ hL hg hs
  simp only [EM,Option.map_some,h2] at hi
  split at hi
  ·rename_i k m he
   simp only [List.cons.injEq,and_true] at he
   subst he
   have hv:=h3.int'
   split at hi
   ·rename_i h0
    simp only [Option.some.injEq] at hi
    refine .inr ⟨k,?_⟩
    simp only [Option.map_some,h1,hv]
    subst hi
    rw [Int.toNat_of_nonneg h0]
   ·cases hi
  ·cases hi

variable (hC:CfgOk P C)(hw:WOk w0 own0 cx own w)(hL:∀ z,SlotOk w cx own env (tvA a) z (L z))(hg:∀ gs b,g=some (gs,b)→env gs=[.bool b])
 (hod:o.dst=some d)(hd:d<a.tmps.size)(hn:∀ d sh,u.dst=some (d,sh)→sh.names d=false)(hp:pstep p env=some env')
include hC hw hL hg hod hd hn hp

theorem TG {c:Call}{x:Operand}{t e:TypeId}{ti:TI}{k:CS}(ho:o.op= .call c)(hb:c.callee= .builtin .len)(hx:c.args.toList=[x])(ht:c.argTypes.toList=[t])
  (hti:C.ty t=some ti)(hde:ti.desc= .slice e)(hk:kU L g x=some k)(hpp:p= .len d (cC x)):jL P cx own w a env o {dst:=some (d,.v false [.s]) } env':=by
 subst hpp
 obtain ⟨dx,vx,s,h1,h2,h3,h4,h5,h6⟩:=opL hL hg hk
 simp only [pstep,h2] at hp
 split at hp
 ·rename_i xs he
  simp only [List.cons.injEq,and_true] at he
  subst he
  simp only [Option.some.injEq] at hp
  subst hp
  obtain ⟨A,cap,hv,_⟩:=(aS.rep h4 h5).slice'
  refine hZ hw hod hd (fun w2=>?_) (.int _ _)
  have hax:c.args=#[x]:=by rw [←Array.toArray_toList (xs:=c.args),hx]
  have hat:c.argTypes=#[t]:=by rw [←Array.toArray_toList (xs:=c.argTypes),ht]
  obtain ⟨k9,he9⟩:=fK (P:=P) (w:=w2) (a:=a) ho hb
  rw [he9]
  subst hv
  simp only [builtin,Builtin.len_,hax,hat,List.map_toArray,List.map_cons,List.map_nil,h1,Sem.run_bind]
  simp [run_underlying ((hC t ti hti).slice hde),goInt]
 ·cases hp

theorem TH {c:Call}{x:Operand}{t:TypeId}{ti:TI}(ho:o.op= .call c)(hb:c.callee= .builtin .len)(hx:c.args.toList=[x])(ht:c.argTypes.toList=[t])
  (hti:C.ty t=some ti)(hde:ti.desc= .str)(hk:scal L g x=true)(hpp:p= .slen d (cC x)):jL P cx own w a env o {dst:=some (d,.v false [.s]) } env':=by
 subst hpp
 obtain ⟨dx,vx,h1,h2,h3⟩:=EJ hL hg hk
 simp only [pstep,h2] at hp
 split at hp
 ·rename_i s he
  simp only [List.cons.injEq,and_true] at he
  subst he
  simp only [Option.some.injEq] at hp
  subst hp
  have hv:=h3.str'
  refine hZ hw hod hd (fun w2=>?_) (.int _ _)
  have hax:c.args=#[x]:=by rw [←Array.toArray_toList (xs:=c.args),hx]
  have hat:c.argTypes=#[t]:=by rw [←Array.toArray_toList (xs:=c.argTypes),ht]
  obtain ⟨k9,he9⟩:=fK (P:=P) (w:=w2) (a:=a) ho hb
  rw [he9]
  subst hv
  simp only [builtin,Builtin.len_,hax,hat,List.map_toArray,List.map_cons,List.map_nil,h1,Sem.run_bind]
  simp [run_underlying ((hC t ti hti).str hde),goInt]
 ·cases hp

omit hC in
theorem aCv {c:Call}{x y:Operand}(ho:o.op= .call c)(hb:c.callee= .builtin .min)(hx:c.args.toList=[x,y])
  (hk:scal L g x=true)(hk2:scal L g y=true)(hpp:p= .min d (cC x) (cC y)):nM P cx own w a env o {dst:=some (d,.v false [.s]) } env':=by
 subst hpp
 obtain ⟨dx,vx,h1,h2,h3⟩:=EJ hL hg hk
 obtain ⟨dy,vy,h4,h5,h6⟩:=EJ hL hg hk2
 simp only [pstep,h2,h5] at hp
 split at hp
 ·rename_i k m k' n he1 he2
  simp only [List.cons.injEq,and_true] at he1 he2
  subst he1;subst he2
  split at hp
  ·rename_i hkk
   subst hkk
   simp only [Option.some.injEq] at hp
   subst hp
   have hv1:=h3.int'
   have hv2:=h6.int'
   refine sG hw hod hd ?_ (.int _ _)
   have hax:c.args=#[x,y]:=by rw [←Array.toArray_toList (xs:=c.args),hx]
   obtain ⟨k9,he9⟩:=fK (P:=P) (w:=w) (a:=a) ho hb
   rw [he9]
   subst hv1;subst hv2
   simp only [builtin,Builtin.min_,hax,List.map_toArray,List.map_cons,List.map_nil,h1,h4,Sem.run_bind]
   simp [Builtin.min2]
  ·cases hp
 ·cases hp

theorem We {t:TypeId}{x:Operand}{lo hi mx:Option Operand}(ho:o.op= .slice t x lo hi mx)(hc:Pz C L g d t x lo hi mx=some (u,p)):nM P cx own w a env o u env':=by
 unfold Pz at hc
 split at hc
 ·cases hc
 rename_i hidx0
 simp only [Bool.and_eq_true,Bool.or_eq_true,Option.isNone_iff_eq_none] at hidx0
 obtain ⟨hidx,hmxhi⟩:=hidx0
 split at hc
 ·rename_i ti hti
  split at hc
  ·rename_i hde
   split at hc
   ·rename_i hk
    simp only [Bool.and_eq_true,Option.isNone_iff_eq_none] at hk
    simp only [bS,Option.some.injEq,Prod.mk.injEq] at hc
    obtain ⟨rfl,rfl⟩:=hc
    obtain ⟨dx,vx,h1,h2,h3⟩:=EJ hL hg hk.1
    simp only [pstep,h2] at hp
    split at hp
    ·rename_i s he
     simp only [List.cons.injEq,and_true] at he
     subst he
     split at hp
     ·rename_i l h hl hh
      split at hp
      ·rename_i hlh
       simp only [Option.some.injEq] at hp
       subst hp
       have hv:=h3.str'
       refine sG hw hod hd ?_ (.str _)
       have hlo:=Hc hL hg hidx.1.1 hl
       have hhi:=Hc hL hg hidx.1.2 hh
       have hu:=(hC t ti hti).str hde
       have hb:=CK P w false s.size s.size l h s.size (lo.map a.eval) (hi.map a.eval) none
        (hlo.imp (fun h=>⟨h.1,h.2.1⟩) id) (hhi.imp (fun h=>⟨h.1,h.2.1,rfl⟩) id) (.inl ⟨rfl,rfl⟩) hlh.1 hlh.2 (Nat.le_refl _)
       obtain rfl:=hk.2
       unfold execOp
       subst hv
       simp only [ho,h1,Instr.sliceAt,Instr.slice,Sem.run_bind,run_underlying hu,Result.andThen_ok,Option.map_none,Option.isSome_none,Bool.false_eq_true,if_false,Sem.run_pure,hb]
      ·cases hp
     ·cases hp
    ·cases hp
   ·cases hc
  ·rename_i e hde
   split at hc
   ·rename_i ei s hei
    split at hc
    ·rename_i c hk
     obtain ⟨dx,vx,sx,h1,h2,h3,h4,h5,h6⟩:=opL hL hg hk
     obtain rfl:=h3 s rfl
     split at hc
     ·rename_i c' hcut
      simp only [bS,Option.some.injEq,Prod.mk.injEq] at hc
      obtain ⟨rfl,rfl⟩:=hc
      have hcc:∃ S,c'.isO=false∧Rep w S dx vx∧∀ x v,Cell1 v→Rep w S x v→aS w cx own d 0 c' x v:=by
       have h42:=h4.2
       unfold aEq at hcut
       split at hcut
       ·simp only [Option.some.injEq] at hcut
        subst hcut
        obtain ⟨rfl,rfl⟩:=h42
        exact ⟨RS cx own,rfl,.nil _ _,fun x v h1 h2=>⟨h1,h2⟩⟩
       ·simp only [Option.some.injEq] at hcut
        subst hcut
        exact ⟨RS cx own,rfl,h42,fun x v h1 h2=>⟨h1,h2⟩⟩
       ·simp only [Option.some.injEq] at hcut
        subst hcut
        exact ⟨BS cx own,rfl,h42,fun x v h1 h2=>⟨h1,h2⟩⟩
       ·rename_i c9 hn1 hn2 hn3
        split at hcut
        ·rename_i hbr
         simp only [Option.some.injEq] at hcut
         subst hcut
         refine ⟨BS cx own,rfl,?_,fun x v h1 h2=>⟨h1,h2⟩⟩
         cases c with
         | n=>exact absurd rfl hn1
         | s=>exact absurd rfl h6
         | r=>exact absurd rfl hn2
         | b=>exact absurd rfl hn3
         | o m f=>
          simp only [mS,Bool.not_eq_true'] at hbr
          subst hbr
          exact OwnRep.borrow h42 (fun g i hi=>(hw.dom g i hi).2) hw.s1
         | al h k m f=>
          simp only [mS,Bool.not_eq_true'] at hbr
          subst hbr
          exact OwnRep.borrow h42 (fun g i hi=>(hw.dom g i hi).2) hw.s1
         | x=>cases h5
        ·cases hcut
      obtain ⟨S,hco,hrep,hcell⟩:=hcc
      have h2':env sx=[dx]:=h2
      simp only [pstep,Opd.get,h2'] at hp
      split at hp
      ·rename_i xs he
       simp only [List.cons.injEq,and_true] at he
       subst he
       split at hp
       ·rename_i l h hl hh
        split at hp
        ·rename_i m hm
         split at hp
         ·rename_i hall
          obtain ⟨hlh,hhx,hmh,hsz⟩:=hall
          simp only [Option.some.injEq] at hp
          subst hp
          have hlo:=Hc hL hg hidx.1.1 hl
          have hhi:=Hc hL hg hidx.1.2 hh
          have hmx:=Hc hL hg hidx.2 hm
          have hu:=(hC t ti hti).slice hde
          have hes:=(hC e ei hei).size w
          obtain ⟨A,cap,hv,hcap⟩:=hrep.slice'
          -- the bound behind
          have hm2:∃ m',(mx.map a.eval=none∧m'=cap∨∃ k,mx.map a.eval=some (.int k (m':Int)))∧h≤m'∧m'≤cap∧(hi.map a.eval=none∧h=xs.length∧mx.map a.eval=none∨∃ k,hi.map a.eval=some (.int k (h:Int))):=by
           rcases hmx with ⟨hm1,hm2,hm3⟩ | ⟨k,hm1⟩
           ·exact ⟨cap,.inl ⟨hm1,rfl⟩,by omega,Nat.le_refl _,hhi.imp (fun h=>⟨h.1,h.2.1,hm1⟩) id⟩
           ·have:m=h:=by
             rcases hmh with h | h
             ·rw [Option.map_eq_none_iff] at h;subst h;simp at hm1
             ·exact h
            subst this
            refine ⟨m,.inr ⟨k,hm1⟩,Nat.le_refl _,by omega,?_⟩
            rcases hhi with ⟨h7,h8,h9⟩ | h7
            ·exfalso
             rcases hmxhi with h | h
             ·subst h;simp at hm1
             ·subst h9;simp at h
            ·exact .inr h7
          obtain ⟨m',hm3,hm4,hm5,hm6⟩:=hm2
          have hb:=CK P w true xs.length cap l h m' (lo.map a.eval) (hi.map a.eval) (mx.map a.eval) (hlo.imp (fun h=>⟨h.1,h.2.1⟩) id) hm6 hm3 hlh hm4 hm5
          have hr:(execOp a.eval o).run P w= .ok (.value (.slice (if m'=l then A else A.map (·.add (l*ei.size))) (h - l) (m' - l))) w:=by
           unfold execOp
           subst hv
           simp only [ho,h1,Instr.sliceAt,Instr.slice,Sem.run_bind,run_underlying hu,Result.andThen_ok,Sem.run_pure,hb,hes]
          refine sR hw hod hd (hn _ _ rfl) (by simp [Sh.noOwn,hco]) hr (wJ hd (hcell _ _ ⟨fun _=>by simp,fun _=>by simp⟩ ?_))
          rcases hrep.slice with ⟨rfl,A',cap',hv'⟩ | ⟨gg,off,sz,cap',vs,hv',h11,h12,h13,h14,h15⟩
          ·have:h=0:=by simpa using hhx
           subst this
           simp only [List.take_nil,List.drop_nil]
           have:0 - l=0:=by omega
           rw [this]
           exact .nil _ _
          ·rw [hv] at hv'
           simp only [Value.slice.injEq] at hv'
           obtain ⟨rfl,_,rfl⟩:=hv'
           by_cases hlt:l=h
           ·subst hlt
            have:(xs.take l).drop l=[]:=by simp
            rw [this,Nat.sub_self]
            exact .nil _ _
           ·have hlt':l<h:=by omega
            have hsz':sz=ei.size:=by
             have hx0:xs[0]? =some xs[0]:=List.getElem?_eq_getElem (by omega)
             rw [←h12 _ (List.mem_of_getElem? hx0)]
             exact hsz _ (List.mem_of_getElem? hx0)
            subst hsz'
            have hml:m'≠l:=by omega
            rw [if_neg hml]
            simp only [Option.map_some,Addr.add_lit]
            have hlen:((xs.take h).drop l).length=h - l:=by simp only [List.length_drop,List.length_take];omega
            have hget:∀ (i:Nat) (x:List D),((xs.take h).drop l)[i]? =some x→xs[l+i]? =some x:=by
             intro i x hx
             rw [List.getElem?_drop,List.getElem?_take] at hx
             split at hx
             ·exact hx
             ·cases hx
            rw [←hlen]
            refine .sl _ gg (off+l*ei.size) ei.size _ (fun i j=>vs (l+i) j) (by omega) (fun x hx=>?_) (fun i x j d hx hj=>?_) (fun i x j d hx hj=>?_) (fun i x j d hx hj=>h15 _ x j d (hget i x hx) hj)
            ·obtain ⟨i,hi⟩:=List.getElem?_of_mem hx
             exact h12 _ (List.mem_of_getElem? (hget i x hi))
            ·have:=h13 _ x j d (hget i x hx) hj
             rw [Nat.add_mul,←Nat.add_assoc] at this
             exact this
            ·have:=h14 _ x j d (hget i x hx) hj
             rw [Nat.add_mul,←Nat.add_assoc] at this
             exact this
         ·cases hp
        ·cases hp
       ·cases hp
      ·cases hp
     ·cases hc
    ·cases hc
   ·cases hc
  ·cases hc
 ·cases hc

end

end
section

section
variable {P:Program}{C:Cfg}{w0:World}{own0:Own}{cx:Cx}{own:Own}{w:World}{a:Act}{env env':Env}{L:Look}{g:Gd}{o:Oper}{u:Up}{p:PS}{d:Nat}

theorem DG {t:Nat}{ti:TI}(h:TyOk P t ti)(w:World)(gg off:Nat)(vs:List Value)(hl:vs.length=ti.size)(hc:∀ (j:Nat) (v:Value),vs[j]? =some v→w.cell? ⟨gg,off+j,none⟩=some v):
  (loadVar t ⟨gg,off,none⟩).run P w= .ok (wrapV ti.agg vs) w:=by
 unfold loadVar
 simp only [Sem.run_bind,h.isAgg w,Result.andThen_ok]
 cases ha:ti.agg with
 | true=>
  simp only [if_true,Sem.run_bind,h.size w,Result.andThen_ok]
  rw [←hl,run_loadCells_list (P:=P) w ⟨gg,off,none⟩ vs (fun j v hv=>by rw [Addr.add_lit];exact hc j v hv)]
  rfl
 | false=>
  have h1:=h.one ha
  rw [h1] at hl
  match vs,hl with
  | [v],_=>
   have:=hc 0 v rfl
   simp only [Nat.add_zero] at this
   simp [run_load,this,wrapV]

theorem KX:∀ {zs ds:List D},uQ zs ds=true→zs.length=ds.length
 | [],[],_=>rfl
 | [],_::_,h=>by cases h
 | _::_,[],h=>by cases h
 | a::r,b::q,h=>by
  simp only [uQ,Bool.and_eq_true] at h
  simp [KX h.2]

theorem KY:∀ {zs ds:List D},uQ zs ds=true→∀ {i:Nat} {z d:D},zs[i]? =some z→ds[i]? =some d→(Yy z=true∧Yy d=true)∨(Yy z=false∧((∃ k n,d= .int k n)∨(∃ b,d= .bool b)∨∃ s,d= .str s))
 | [],_,_,i,z,d,hz,_=>by simp at hz
 | _::_,[],h,_,_,_,_,_=>by cases h
 | a::r,b::q,h,0,z,d,hz,hd=>by
  simp only [uQ,Bool.and_eq_true] at h
  simp only [List.getElem?_cons_zero,Option.some.injEq] at hz hd
  subst hz;subst hd
  have h1:=h.1
  split at h1
  ·exact .inr ⟨rfl,.inl ⟨_,_,rfl⟩⟩
  ·exact .inr ⟨rfl,.inr (.inl ⟨_,rfl⟩)⟩
  ·exact .inr ⟨rfl,.inr (.inr ⟨_,rfl⟩)⟩
  ·exact .inl ⟨rfl,rfl⟩
  ·cases h1
 | a::r,b::q,h,i+1,z,d,hz,hd=>by
  simp only [uQ,Bool.and_eq_true] at h
  exact KY h.2 (by simpa using hz) (by simpa using hd)

theorem Rep.scal' {S:Nat→Nat→Prop}{d:D}{v:Value}(h:Rep w S d v)(hd:(∃ k n,d= .int k n)∨(∃ b,d= .bool b)∨∃ s,d= .str s):Scal d v:=by
 cases h with
 | scal h=>exact h
 | nil=>rcases hd with ⟨_,_,h⟩ | ⟨_,h⟩ | ⟨_,h⟩<;>cases h
 | sl=>rcases hd with ⟨_,_,h⟩ | ⟨_,h⟩ | ⟨_,h⟩<;>cases h
 | fn=>rcases hd with ⟨_,_,h⟩ | ⟨_,h⟩ | ⟨_,h⟩<;>cases h

theorem Rep.cell1 {S:Nat→Nat→Prop}{d:D}{v:Value}(h:Rep w S d v):Cell1 v:=by
 cases h with
 | scal h=>exact h.cell1
 | nil=>exact ⟨fun _=>by simp,fun _=>by simp⟩
 | sl=>exact ⟨fun _=>by simp,fun _=>by simp⟩
 | fn=>exact ⟨fun _=>by simp,fun _=>by simp⟩

theorem DH (hw:WOk w0 own0 cx own w){s:Nat}{c:CS}{xs:List (List D)}{v:Value}(hr:zU c=true)(h:aS w cx own s 0 c (.sl xs) v)(hns:c≠ .s):
  xs=[]∨∃ (gg off sz cap:Nat) (vs:Nat→Nat→Value),v= .slice (some ⟨gg,off,none⟩) xs.length cap∧(∀ x∈xs,x.length=sz)∧
   (∀ (i:Nat) (x:List D) (j:Nat) (d:D),xs[i]? =some x→x[j]? =some d→w.cell? ⟨gg,off+i*sz+j,none⟩=some (vs i j))∧
   (∀ (i:Nat) (x:List D) (j:Nat) (d:D),xs[i]? =some x→x[j]? =some d→Rep w (fun _ _=>True) d (vs i j))∧
   (∀ (i:Nat) (x:List D) (j:Nat) (d:D) (s' k:Nat),xs[i]? =some x→x[j]? =some d→CellIs w cx own s' k (HG c) d (vs i j)):=by
 have h2:=h.2
 have own':∀ {lf:Nat×Nat} {m:Bool} {f:Fz},OwnRep w cx own lf m f (.sl xs) v→HG c=WH m f→
   xs=[]∨∃ (gg off sz cap:Nat) (vs:Nat→Nat→Value),v= .slice (some ⟨gg,off,none⟩) xs.length cap∧(∀ x∈xs,x.length=sz)∧
   (∀ (i:Nat) (x:List D) (j:Nat) (d:D),xs[i]? =some x→x[j]? =some d→w.cell? ⟨gg,off+i*sz+j,none⟩=some (vs i j))∧
   (∀ (i:Nat) (x:List D) (j:Nat) (d:D),xs[i]? =some x→x[j]? =some d→Rep w (fun _ _=>True) d (vs i j))∧
   (∀ (i:Nat) (x:List D) (j:Nat) (d:D) (s' k:Nat),xs[i]? =some x→x[j]? =some d→CellIs w cx own s' k (HG c) d (vs i j)):=by
  intro lf m f ho hec
  cases ho with
  | nil=>exact .inl rfl
  | sl _ gg cap cur T fr vs h1 h2 h3 h4 h5 h6 h7 h8 h9 h10=>
   refine .inr ⟨gg,0,f.sz,cap,vs,rfl,h8,fun i x j d hx hj=>by rw [Nat.zero_add,bM h1];exact h9 i x j d hx hj,fun i x j d hx hj=>?_,fun i x j d s' k hx hj=>?_⟩
   ·have h11:=h10 i x j d hx hj
    obtain ⟨sz,u⟩:=f
    cases u with
    | false=>exact Rep.sub h11 (fun _ _ _=>trivial)
    | true=>exact InRep.rep h11 (fun _ _ _ _ _ _=>⟨trivial,rfl⟩)
   ·have h11:=h10 i x j d hx hj
    rw [hec]
    obtain ⟨sz,u⟩:=f
    cases u with
    | false=>exact h11
    | true=>
     cases m with
     | true=>trivial
     | false=>exact InRep.rep h11 (fun g i o hi hl hb=>⟨⟨fun ⟨i',b,e1,e2,_⟩=>(by rw [hi] at e1;simp only [Option.some.injEq] at e1;rw [←e1,hb] at e2;cases e2),.inr (hw.dom g i hi).2⟩,rfl⟩)
  | ip _ _ hf h1=>
   subst hf
   cases h1 with
   | scal h=>cases h
   | nil=>exact .inl rfl
   | sl _ _ gg sz cap cur T fr vs h1 h2 h3 h4 h5 h6 h7=>
    refine .inr ⟨gg,0,sz,cap,vs,rfl,h5,fun i x j d hx hj=>by rw [Nat.zero_add,bM h1];exact h6 i x j d hx hj,fun i x j d hx hj=>InRep.rep (h7 i x j d hx hj) (fun _ _ _ _ _ _=>⟨trivial,rfl⟩),fun i x j d s' k hx hj=>?_⟩
    rw [hec]
    cases m with
    | true=>trivial
    | false=>exact InRep.rep (h7 i x j d hx hj) (fun g i o hi hl hb=>⟨⟨fun ⟨i',b,e1,e2,_⟩=>(by rw [hi] at e1;simp only [Option.some.injEq] at e1;rw [←e1,hb] at e2;cases e2),.inr (hw.dom g i hi).2⟩,rfl⟩)
 have rep':∀ {S:Nat→Nat→Prop},Rep w S (.sl xs) v→(∀ (s k:Nat) (d:D) (u:Value),Rep w S d u→CellIs w cx own s k (HG c) d u)→
   xs=[]∨∃ (gg off sz cap:Nat) (vs:Nat→Nat→Value),v= .slice (some ⟨gg,off,none⟩) xs.length cap∧(∀ x∈xs,x.length=sz)∧
   (∀ (i:Nat) (x:List D) (j:Nat) (d:D),xs[i]? =some x→x[j]? =some d→w.cell? ⟨gg,off+i*sz+j,none⟩=some (vs i j))∧
   (∀ (i:Nat) (x:List D) (j:Nat) (d:D),xs[i]? =some x→x[j]? =some d→Rep w (fun _ _=>True) d (vs i j))∧
   (∀ (i:Nat) (x:List D) (j:Nat) (d:D) (s' k:Nat),xs[i]? =some x→x[j]? =some d→CellIs w cx own s' k (HG c) d (vs i j)):=by
  intro S hS hel
  rcases hS.slice with ⟨rfl,_⟩ | ⟨gg,off,sz,cap,vs,rfl,h11,h12,h13,h14,h15⟩
  ·exact .inl rfl
  ·exact .inr ⟨gg,off,sz,cap,vs,rfl,h12,h13,fun i x j d hx hj=>Rep.sub (h15 i x j d hx hj) (fun _ _ _=>trivial),fun i x j d s' k hx hj=>hel s' k d _ (h15 i x j d hx hj)⟩
 cases c with
 | n=>obtain ⟨h,_⟩:=h2;cases h;exact .inl rfl
 | s=>exact absurd rfl hns
 | r=>exact rep' h2 (fun _ _ _ _ h=>h)
 | b=>exact rep' h2 (fun _ _ _ _ h=>h)
 | o m f=>exact own' h2 rfl
 | al hh k m f=>exact own' h2 rfl
 | x=>cases hr

variable (hC:CfgOk P C)(hw:WOk w0 own0 cx own w)(hL:∀ z,SlotOk w cx own env (tvA a) z (L z))(hg:∀ gs b,g=some (gs,b)→env gs=[.bool b])
 (hod:o.dst=some d)(hd:d<a.tmps.size)(hn:∀ d sh,u.dst=some (d,sh)→sh.names d=false)(hp:pstep p env=some env')
include hw hL hg hod hd hn hp

theorem Wf {x:Operand}(ho:o.op= .nilCheck x)(hc:aCm L g d x=some (u,p)):jL P cx own w a env o u env':=by
 have key:∀ b off,a.eval x= .pointer (some ⟨b,off,none⟩)→∀ w2:World,(execOp a.eval o).run P w2= .ok (.value (a.eval x)) w2:=by
  intro b off he w2
  unfold execOp
  simp only [ho,he,Sem.run_pure]
 unfold aCm at hc
 cases x with
 | tmp s=>
  have hs:=eV hL hg s
  simp only [lS] at hc
  split at hc
  ·rename_i ro cs he
   rw [he] at hs
   obtain ⟨gg,cur,T,h1,_⟩:=hs
   exact BA hw hL hg hod hd hn hp (key gg 0 h1) hc
  ·rename_i b off he
   rw [he] at hs
   obtain ⟨gg,h1,h2⟩:=hs
   exact BA hw hL hg hod hd hn hp (key gg off h2) hc
  ·cases hc
 | const v=>
  simp only [lS] at hc
  split at hc
  ·rename_i he;split at he<;>cases he
  ·rename_i he;split at he<;>cases he
  ·cases hc
 | global=>simp [lS] at hc
 | func f=>simp [lS] at hc

include hC in
theorem DI {t:TypeId}{x:Operand}{k:Nat}(ho:o.op= .fieldAddr t x k)(hc:Px C L g d t k x=some (u,p)):jL P cx own w a env o u env':=by
 unfold Px at hc
 split at hc
 ·rename_i off s hf
  have hs:=eV hL hg s
  -- the field's place
  obtain ⟨fields,f,hu,hff,hfo,hfs⟩:∃ fields f,P.underlying t=some (.struct fields)∧fields[k]? =some f∧f.offset=off∧∃ n,n≠0∧∀ w:World,(sizeOf f.type).run P w= .ok n w:=by
   unfold Cfg.fieldOf at hf
   split at hf
   ·rename_i ti hti
    split at hf
    ·rename_i fs hde
     split at hf
     ·rename_i off' ft hfk
      split at hf
      ·rename_i fi hfi
       split at hf
       ·cases hf
       ·rename_i hz
        simp only [Option.some.injEq] at hf
        subst hf
        obtain ⟨fields,f,hu,hff,h1,h2⟩:=(hC t ti hti).field hde hfk
        exact ⟨fields,f,hu,hff,h1,fi.size,hz,fun w=>by rw [h2];exact (hC ft fi hfi).size w⟩
      ·cases hf
     ·cases hf
    ·cases hf
   ·cases hf
  obtain ⟨n,hn0,hsz⟩:=hfs
  have hr:∀ b o',a.eval (.tmp s)= .pointer (some ⟨b,o',none⟩)→∀ w2:World,(execOp a.eval o).run P w2= .ok (.value (.pointer (some ⟨b,o'+off,none⟩))) w2:=by
   intro b o' he w2
   unfold execOp
   simp only [ho,he,Instr.fieldAt,Instr.sureAddr,fieldPlace,Sem.run_bind,run_underlying hu,Result.andThen_ok,hff,Sem.run_pure,hsz w2,if_neg hn0,Addr.add_lit,hfo]
  split at hc
  ·rename_i ro cs he
   simp only [bS,Option.some.injEq,Prod.mk.injEq] at hc
   obtain ⟨rfl,rfl⟩:=hc
   simp only [pstep,Option.some.injEq] at hp
   subst hp
   rw [he] at hs
   obtain ⟨gg,cur,T,h1,_⟩:=hs
   have hsd:s≠d:=fun e=>by have:=hn _ _ rfl;simp [Sh.names,e] at this
   have:=dH (env:=env) (c:=env d) hw hod hd (hn _ _ rfl) rfl (hr gg 0 h1) (sh:= .pt s off) (by
    refine ⟨gg,?_,?_⟩
    ·rw [aQ a d _ hd,if_neg hsd];exact h1
    ·rw [aQ a d _ hd,if_pos rfl,Nat.zero_add])
   rwa [DD] at this
  ·rename_i b o' he
   simp only [bS,Option.some.injEq,Prod.mk.injEq] at hc
   obtain ⟨rfl,rfl⟩:=hc
   simp only [pstep,Option.some.injEq] at hp
   subst hp
   rw [he] at hs
   obtain ⟨gg,h1,h2⟩:=hs
   have hsd:b≠d:=fun e=>by have:=hn _ _ rfl;simp [Sh.names,e] at this
   have:=dH (env:=env) (c:=env d) hw hod hd (hn _ _ rfl) rfl (hr gg o' h2) (sh:= .pt b (o'+off)) (by
    refine ⟨gg,?_,?_⟩
    ·rw [aQ a d _ hd,if_neg hsd];exact h1
    ·rw [aQ a d _ hd,if_pos rfl])
   rwa [DD] at this
  ·rename_i c o' he
   simp only [bS,Option.some.injEq,Prod.mk.injEq] at hc
   obtain ⟨rfl,rfl⟩:=hc
   simp only [pstep,Option.some.injEq] at hp
   subst hp
   rw [he] at hs
   obtain ⟨xs,k,n,g1,o0,sz,len,cap,h1,h2,h3,h4,h5,h6,h7⟩:=hs
   refine dH hw hod hd (hn _ _ rfl) rfl (hr _ _ h7) ⟨xs,k,n,g1,o0,sz,len,cap,?_,h2,h3,h4,h5,?_,?_⟩
   ·rw [aI];exact h1
   ·cases c<;>first | exact h6 | exact absurd rfl (h5 _ _)
   ·rw [aQ a d _ hd,if_pos rfl,Nat.add_assoc]
  ·cases hc
 ·cases hc

include hC in
theorem DJ {t:TypeId}{x i:Operand}(ho:o.op= .indexAddr t x i)(hc:CD C L g d t x i=some (u,p)):jL P cx own w a env o u env':=by
 unfold CD at hc
 split at hc
 ·rename_i ti hti
  split at hc
  ·cases hc
  rename_i hi
  simp only [Bool.not_eq_true',Bool.not_eq_false] at hi
  obtain ⟨dy,vy,h4,h5,h6⟩:=EJ hL hg hi
  split at hc
  ·rename_i e hde
   split at hc
   ·rename_i ei s hei
    split at hc
    ·rename_i c hk
     simp only [bS,Option.some.injEq,Prod.mk.injEq] at hc
     obtain ⟨rfl,rfl⟩:=hc
     obtain ⟨dx,vx,s',h1,h2,h3,h4',h5',h6'⟩:=opL hL hg hk
     obtain rfl:=h3 s rfl
     have h2':env s'=[dx]:=h2
     simp only [pstep,h5,show Opd.get env (.t s')=[dx] from h2'] at hp
     split at hp
     ·rename_i xs k n he1 he2
      simp only [List.cons.injEq,and_true] at he1 he2
      subst he1;subst he2
      have hvy:=h6.int'
      split at hp
      ·rename_i h0
       split at hp
       ·rename_i x hx
        split at hp
        ·rename_i hxl
         simp only [Option.some.injEq] at hp
         subst hp
         have hlt:n.toNat<xs.length:=(List.getElem?_eq_some_iff.1 hx).1
         obtain ⟨A,cap,hv,hcap⟩:=(aS.rep h4' h5').slice'
         have hz:xs≠[]:=fun h=>by rw [h] at hlt;simp at hlt
         rcases DH hw h5' h4' h6' with h | ⟨gg,off,sz,cap',vs,hv',h12,_⟩
         ·exact absurd h hz
         have hsz:sz=ei.size:=by rw [←h12 x (List.mem_of_getElem? hx)];exact hxl
         subst hsz
         have hu:=(hC t ti hti).slice hde
         have hr:∀ w2:World,(execOp a.eval o).run P w2= .ok (.value (.pointer (some ⟨gg,off+n.toNat*ei.size,none⟩))) w2:=by
          intro w2
          have hes:=(hC e ei hei).size w2
          unfold execOp
          rw [hv'] at h1
          have:(0≤n∧n<(xs.length:Int)):=⟨h0,by omega⟩
          simp only [ho,h1,h4,hvy,Instr.indexAt,asIntOf,Sem.run_bind,Sem.run_pure,Result.andThen_ok,run_underlying hu,if_pos this,hes,Addr.add_lit]
         refine dH hw hod hd (hn _ _ rfl) rfl hr ⟨xs,k,n,gg,off,ei.size,xs.length,cap',?_,h0,hlt,h12,?_,?_,?_⟩
         ·rw [aI]
         ·intro m f;cases c<;>simp
         ·rw [hv'] at h4'
          cases c<;>exact h4'
         ·rw [aQ a d _ hd,if_pos rfl];rfl
        ·cases hp
       ·cases hp
      ·cases hp
     ·cases hp
    ·cases hc
   ·cases hc
  ·rename_i n e hde
   split at hc
   ·rename_i ei s hei
    have hs:=eV hL hg s
    have hu:=(hC t ti hti).array hde
    have key:∀ (b off:Nat) (gg:Nat),tvA a b= .pointer (some ⟨gg,0,none⟩)→tvA a s= .pointer (some ⟨gg,off,none⟩)→u={dst:=some (d,.bx b ei.size off) }→p= .bxp d (cC i) n→jL P cx own w a env o u env':=by
     rintro b off gg h1 h2 rfl rfl
     simp only [pstep,h5] at hp
     split at hp
     ·rename_i k m he
      simp only [List.cons.injEq,and_true] at he
      subst he
      have hvy:=h6.int'
      split at hp
      ·rename_i hm
       simp only [Option.some.injEq] at hp
       subst hp
       have hsd:b≠d:=fun e=>by have:=hn _ _ rfl;simp [Sh.names,e] at this
       have hr:∀ w2:World,(execOp a.eval o).run P w2= .ok (.value (.pointer (some ⟨gg,off+m.toNat*ei.size,none⟩))) w2:=by
        intro w2
        have hes:=(hC e ei hei).size w2
        unfold execOp
        have h2':a.eval (.tmp s)= .pointer (some ⟨gg,off,none⟩):=h2
        simp only [ho,h2',h4,hvy,Instr.indexAt,Instr.sureAddr,asIntOf,Sem.run_bind,Sem.run_pure,Result.andThen_ok,run_underlying hu,if_pos hm,hes,Addr.add_lit]
       refine dH hw hod hd (hn _ _ rfl) rfl hr ⟨k,m,gg,?_,hm.1,?_,?_⟩
       ·rw [aI]
       ·rw [aQ a d _ hd,if_neg hsd];exact h1
       ·rw [aQ a d _ hd,if_pos rfl,Nat.add_comm]
      ·cases hp
     ·cases hp
    split at hc
    ·rename_i ro cs he
     simp only [bS,Option.some.injEq,Prod.mk.injEq] at hc
     rw [he] at hs
     obtain ⟨gg,cur,T,h1,_⟩:=hs
     exact key s 0 gg h1 h1 hc.1.symm hc.2.symm
    ·rename_i b off he
     simp only [bS,Option.some.injEq,Prod.mk.injEq] at hc
     rw [he] at hs
     obtain ⟨gg,h1,h2⟩:=hs
     exact key b off gg h1 h2 hc.1.symm hc.2.symm
    ·cases hc
   ·cases hc
  ·cases hc
 ·cases hc

include hC in
theorem ZH {t:TypeId}{x:Operand}(ho:o.op= .load t x)(hc:WJ C L g d t x=some (u,p)):nM P cx own w a env o u env':=by
 unfold WJ at hc
 split at hc
 ·rename_i ti s hti
  have hT:=hC t ti hti
  have hs:=eV hL hg s
  have exec:∀ (gg off:Nat) (vs:List Value),tvA a s= .pointer (some ⟨gg,off,none⟩)→vs.length=ti.size→(∀ (j:Nat) (v:Value),vs[j]? =some v→w.cell? ⟨gg,off+j,none⟩=some v)→
    (execOp a.eval o).run P w= .ok (.value (wrapV ti.agg vs)) w:=by
   intro gg off vs h1 h2 h3
   have h1':a.eval (.tmp s)= .pointer (some ⟨gg,off,none⟩):=h1
   unfold execOp
   simp only [ho,h1',Instr.loadAt,Instr.sureAddr,Sem.run_bind,Sem.run_pure,Result.andThen_ok,DG hT w gg off vs h2 h3]
  -- out of a box
  have box:∀ (b off:Nat) (gg:Nat),tvA a b= .pointer (some ⟨gg,0,none⟩)→tvA a s= .pointer (some ⟨gg,off,none⟩)→
    (match L b with
     | .box _ cs=>if off+ti.size≤cs.length then bS d (.v ti.agg (alias b ((cs.drop off).take ti.size) off)) (.sub d b off ti.size) else none
     | _=>none)=some (u,p)→nM P cx own w a env o u env':=by
   intro b off gg h1 h2 hc
   have hb:=hL b
   split at hc
   ·rename_i ro cs he
    rw [he] at hb
    split at hc
    ·rename_i hlen
     simp only [bS,Option.some.injEq,Prod.mk.injEq] at hc
     obtain ⟨rfl,rfl⟩:=hc
     simp only [pstep] at hp
     split at hp
     ·rename_i hle
      simp only [Option.some.injEq] at hp
      subst hp
      obtain ⟨g2,cur,T,h3,h4,h5,_⟩:=hb
      rw [h1] at h3
      simp only [Value.pointer.injEq,Option.some.injEq,Addr.mk.injEq,and_true] at h3
      subst h3
      have hvl:cur.toList.length=(env b).length:=h5.2.1
      have hl:((cur.toList.drop off).take ti.size).length=ti.size:=by simp only [List.length_take,List.length_drop];omega
      refine sR hw hod hd (hn _ _ rfl) (xK (sH _ _ _)) (exec gg off ((cur.toList.drop off).take ti.size) h2 hl (fun j v hv=>?_)) ⟨(cur.toList.drop off).take ti.size,?_,(fun ha=>by rw [hl];exact hT.one ha),?_⟩
      ·rw [bM h4]
       rw [List.getElem?_take] at hv
       split at hv
       ·rw [List.getElem?_drop] at hv
        simpa using hv
       ·cases hv
      ·rw [aQ a d _ hd,if_pos rfl]
      ·rw [aI]
       exact All3.alias (n:=off) (All3.part h5 hle)
     ·cases hp
    ·cases hc
   ·cases hc
  simp only at hc
  split at hc
  ·rename_i ro cs he
   rw [he] at hs
   obtain ⟨gg,cur,T,h1,_⟩:=hs
   exact box s 0 gg h1 h1 hc
  ·rename_i b off he
   rw [he] at hs
   obtain ⟨gg,h1,h2⟩:=hs
   exact box b off gg h1 h2 hc
  ·rename_i c off he
   rw [he] at hs
   split at hc
   ·rename_i hrd
    split at hc
    ·-- what a call is to write in its place
     rename_i hh ii hldo
     obtain ⟨fsz,zl,rfl,hzero,hagg⟩:=UJ hldo
     simp only [bS,Option.some.injEq,Prod.mk.injEq] at hc
     obtain ⟨rfl,rfl⟩:=hc
     obtain ⟨xs,k,n,g1,o0,sz,len,cap,h1,h2,h3,h4,h5,h6,h7⟩:=hs
     simp only [pstep,h1] at hp
     split at hp
     ·rename_i x hx
      split at hp
      ·rename_i hle
       simp only [Bool.and_eq_true,decide_eq_true_eq] at hle
       simp only [Option.some.injEq] at hp
       subst hp
       have hts:ti.size=1:=hT.one hagg
       have hzl:ti.zero.length=ti.size:=hT.len
       have h62:OwnRep w cx own (hh,ii+1) true ⟨fsz,true⟩ (.sl xs) (.slice (some ⟨g1,o0,none⟩) len cap):=h6.2
       have hspine:o0=0∧own g1=some ⟨(hh,ii+1),[],some 0⟩:=by
        cases h62 with
        | sl _ g cap cur T fr vs e1 e2=>exact ⟨rfl,e2⟩
        | ip _ _ _ hir=>
         cases hir with
         | scal h=>cases h
         | nil=>simp at h3
         | sl _ _ g sz cap cur T fr vs e1 e2=>exact ⟨rfl,e2⟩
       obtain ⟨rfl,hown1⟩:=hspine
       rcases DH hw hrd h6 (by simp) with h | ⟨gg,off',sz',cap',vs,hv',h12,h13,h14,h15⟩
       ·rw [h] at h3;simp at h3
       simp only [Value.slice.injEq,Option.some.injEq,Addr.mk.injEq,and_true] at hv'
       obtain ⟨⟨rfl,rfl⟩,rfl,rfl⟩:=hv'
       have hsz:sz'=sz:=by rw [←h12 x (List.mem_of_getElem? hx)];exact h4 x (List.mem_of_getElem? hx)
       subst hsz
       have hox:off<x.length:=by omega
       have hcell:=h13 _ x _ _ hx (List.getElem?_eq_getElem hox)
       rw [Nat.zero_add] at hcell h7
       have hsd:s≠d:=fun e=>by have:=hn _ _ rfl;simp [Sh.names,e] at this
       have hr:=exec g1 (n.toNat*sz'+off) [vs n.toNat off] h7 (by rw [hts];rfl) (fun j v hv=>by
        cases j with
        | zero=>
         simp only [List.getElem?_cons_zero,Option.some.injEq] at hv
         subst hv
         exact hcell
        | succ j=>simp at hv)
       refine sR hw hod hd (hn _ _ rfl) rfl hr ⟨g1,n.toNat*sz'+off,vs n.toNat off,?_,?_,hown1,hcell⟩
       ·rw [aQ a d _ hd,if_pos rfl,hagg];rfl
       ·rw [aQ a d _ hd,if_neg hsd];exact h7
      ·cases hp
     ·cases hp
    ·rename_i hl0
     clear hl0
     simp only [bS,Option.some.injEq,Prod.mk.injEq] at hc
     obtain ⟨rfl,rfl⟩:=hc
     obtain ⟨xs,k,n,g1,o0,sz,len,cap,h1,h2,h3,h4,h5,h6,h7⟩:=hs
     simp only [pstep,h1] at hp
     split at hp
     ·rename_i x hx
      split at hp
      ·rename_i hle
       simp only [Bool.and_eq_true,decide_eq_true_eq] at hle
       simp only [Option.some.injEq] at hp
       subst hp
       have hns:c≠ .s:=by
        rintro rfl
        have:=h6.2
        cases this
       rcases DH hw hrd h6 hns with h | ⟨gg,off',sz',cap',vs,hv',h12,h13,h14,h15⟩
       ·rw [h] at h3;simp at h3
       simp only [Value.slice.injEq,Option.some.injEq,Addr.mk.injEq,and_true] at hv'
       obtain ⟨⟨rfl,rfl⟩,rfl,rfl⟩:=hv'
       have hsz:sz'=sz:=by rw [←h12 x (List.mem_of_getElem? hx)];exact h4 x (List.mem_of_getElem? hx)
       subst hsz
       have hzl:ti.zero.length=ti.size:=hT.len
       have hl:((List.range ti.size).map fun j=>vs n.toNat (off+j)).length=ti.size:=by simp
       have hxd:∀ j,j<ti.size→∃ dd,x[off+j]? =some dd:=fun j hj=>⟨x[off+j],List.getElem?_eq_getElem (by omega)⟩
       refine sR hw hod hd (hn _ _ rfl) ?_ (exec g1 (o0+n.toNat*sz'+off) ((List.range ti.size).map fun j=>vs n.toNat (off+j)) h7 hl (fun j v hv=>?_)) ⟨(List.range ti.size).map fun j=>vs n.toNat (off+j),?_,(fun ha=>by rw [hl];exact hT.one ha),?_⟩
       ·refine xK fun c' hc'=>?_
        unfold Ld at hc'
        obtain ⟨z,_,rfl⟩:=List.mem_map.1 hc'
        split
        ·cases c<;>first | rfl | (rename_i m f;obtain ⟨sz,u⟩:=f;cases u<;>cases m<;>rfl)
        ·rfl
       ·rw [List.getElem?_map] at hv
        by_cases hj:j<ti.size
        ·rw [List.getElem?_range hj] at hv
         simp only [Option.map_some,Option.some.injEq] at hv
         subst hv
         obtain ⟨dd,hdd⟩:=hxd j hj
         rw [Nat.add_assoc]
         exact h13 _ x _ dd hx hdd
        ·rw [List.getElem?_eq_none (by simpa using hj)] at hv;cases hv
       ·rw [aQ a d _ hd,if_pos rfl]
       ·rw [aI]
        have hkl:=KX hle.2
        refine ⟨by unfold Ld;rw [List.length_map];exact hkl,by rw [hl,←hkl];exact hzl.symm,fun i c' dd v hc' hdd hv=>?_⟩
        unfold Ld at hc'
        rw [List.getElem?_map] at hc'
        cases hz:ti.zero[i]? with
        | none=>rw [hz] at hc';cases hc'
        | some z=>
         rw [hz] at hc'
         simp only [Option.map_some,Option.some.injEq] at hc'
         have hi:i<ti.size:=by rw [←hzl];exact (List.getElem?_eq_some_iff.1 hz).1
         rw [List.getElem?_map,List.getElem?_range hi] at hv
         simp only [Option.map_some,Option.some.injEq] at hv
         subst hv
         have hkg:=KY hle.2 hz hdd
         rw [List.getElem?_take,if_pos (by omega),List.getElem?_drop] at hdd
         have hrep:=h14 _ x _ dd hx hdd
         refine ⟨hrep.cell1,?_⟩
         rcases hkg with ⟨hk1,hk2⟩ | ⟨hk1,hk2⟩
         ·rw [hk1,if_pos rfl] at hc'
          subst hc'
          exact h15 _ x _ dd d i hx hdd
         ·rw [hk1,if_neg (by simp)] at hc'
          subst hc'
          exact hrep.scal' hk2
      ·cases hp
     ·cases hp
   ·cases hc
  ·rename_i b es off he
   rw [he] at hs
   have hb:=hL b
   split at hc
   ·rename_i ro cs heb
    rw [heb] at hb
    split at hc
    ·rename_i hall
     simp only [bS,Option.some.injEq,Prod.mk.injEq] at hc
     obtain ⟨rfl,rfl⟩:=hc
     obtain ⟨k,n,g1,h1,h2,h3,h4⟩:=hs
     simp only [pstep,h1] at hp
     split at hp
     ·rename_i hle
      simp only [Option.some.injEq] at hp
      subst hp
      obtain ⟨g2,cur,T,h5,h6,h7,_⟩:=hb
      rw [h3] at h5
      simp only [Value.pointer.injEq,Option.some.injEq,Addr.mk.injEq,and_true] at h5
      subst h5
      have hvl:cur.toList.length=(env b).length:=h7.2.1
      have hcl:cs.length=(env b).length:=h7.1
      have hzl:ti.zero.length=ti.size:=hT.len
      have hl:((cur.toList.drop (n.toNat*es+off)).take ti.size).length=ti.size:=by simp only [List.length_take,List.length_drop];omega
      have hpart:=All3.part h7 hle
      refine sR hw hod hd (hn _ _ rfl) ?_ (exec g1 (n.toNat*es+off) ((cur.toList.drop (n.toNat*es+off)).take ti.size) h4 hl (fun j v hv=>?_)) ⟨(cur.toList.drop (n.toNat*es+off)).take ti.size,?_,(fun ha=>by rw [hl];exact hT.one ha),?_⟩
      ·refine xK fun c' hc'=>?_
       unfold La at hc'
       obtain ⟨z,_,rfl⟩:=List.mem_map.1 hc'
       cases z<;>rfl
      ·rw [bM h6]
       rw [List.getElem?_take] at hv
       split at hv
       ·rw [List.getElem?_drop] at hv
        simpa using hv
       ·cases hv
      ·rw [aQ a d _ hd,if_pos rfl]
      ·rw [aI]
       have hzs:∀ c∈La ti.zero,c= .s:=by
        intro c hc'
        unfold La at hc'
        obtain ⟨z,hz,rfl⟩:=List.mem_map.1 hc'
        have:=List.all_eq_true.1 hall.2 z hz
        cases z<;>first | rfl | cases this
       have hcss:∀ c∈cs,c= .s:=fun c hc'=>by simpa using List.all_eq_true.1 hall.1 c hc'
       refine ⟨by unfold La;rw [List.length_map,hzl,List.length_take,List.length_drop];omega,hpart.2.1,fun i c' dd v hc' hdd hv=>?_⟩
       have hi:i<ti.size:=by
        have:=(List.getElem?_eq_some_iff.1 hv).1
        omega
       have hc1:((cs.drop (n.toNat*es+off)).take ti.size)[i]? =some .s:=by
        rw [List.getElem?_take,if_pos hi,List.getElem?_drop]
        have:n.toNat*es+off+i<cs.length:=by omega
        rw [List.getElem?_eq_getElem this]
        exact congrArg some (hcss _ (List.getElem_mem this))
       have:=hpart.2.2 i .s dd v hc1 hdd hv
       rw [hzs c' (List.mem_of_getElem? hc')]
       exact this
     ·cases hp
    ·cases hc
   ·cases hc
  ·cases hc
 ·cases hc

end

end
section

section
variable {P:Program}{C:Cfg}{w0:World}{own0:Own}{cx:Cx}{own:Own}{w:World}{a:Act}{env env':Env}{L:Look}{g:Gd}{o:Oper}{u:Up}{p:PS}{d:Nat}

theorem aS.bs (hN:∀ g i,own g=some i→cx.N g)(h12:∀ g o,cx.S1 g o→cx.S2 g o){s i:Nat}{c:CS}{x:D}{v:Value}(h:aS w cx own s i c x v)(hr:mS c=true):Rep w (BS cx own) x v:=by
 have h2:=h.2
 cases c with
 | n=>obtain ⟨rfl,rfl⟩:=h2;exact .nil _ _
 | s=>exact .scal h2
 | r=>exact Rep.sub h2 (fun g o=>FF h12)
 | b=>exact h2
 | o m f=>
  simp only [mS,Bool.not_eq_true'] at hr
  subst hr
  exact OwnRep.borrow h2 hN h12
 | al h k m f=>
  simp only [mS,Bool.not_eq_true'] at hr
  subst hr
  exact OwnRep.borrow h2 hN h12
 | x=>cases hr

theorem KZ (hN:∀ g i,own g=some i→cx.N g)(h12:∀ g o,cx.S1 g o→cx.S2 g o)(hL:∀ z,SlotOk w cx own env (tvA a) z (L z))(hg:∀ gs b,g=some (gs,b)→env gs=[.bool b]):
  ∀ {fs:List Operand},fs.all (Cs L g)=true→∃ fvs:List (List Value),fvs.length=fs.length∧
   ∀ (i:Nat) (x:Operand),fs[i]? =some x→∃ vs,fvs[i]? =some vs∧a.eval x=wrapV (zV L g x) vs∧vs.length=((cC x).get env).length∧(zV L g x=false→vs.length=1)∧
    ∀ (j:Nat) (d:D) (v:Value),((cC x).get env)[j]? =some d→vs[j]? =some v→Rep w (BS cx own) d v
 | [],_=>⟨[],rfl,fun i x h=>by simp at h⟩
 | x::r,h=>by
  simp only [List.all_cons,Bool.and_eq_true] at h
  obtain ⟨fvs,hl,ih⟩:=KZ hN h12 hL hg h.2
  have hx:=h.1
  unfold Cs at hx
  split at hx
  ·rename_i ag cs he
   obtain ⟨vs,s,h1,h2,h3,h4⟩:=opV hL hg he
   refine ⟨vs::fvs,by simp [hl],fun i y hy=>?_⟩
   cases i with
   | zero=>
    simp only [List.getElem?_cons_zero,Option.some.injEq] at hy
    subst hy
    have hag:zV L g x=ag:=by simp only [zV,he]
    refine ⟨vs,rfl,by rw [hag];exact h1,h4.2.1,by rw [hag];exact h2,fun j dd v hd hv=>?_⟩
    have hj:j<cs.length:=by rw [h4.1];exact (List.getElem?_eq_some_iff.1 hd).1
    exact (h4.2.2 j _ dd v (List.getElem?_eq_getElem hj) hd hv).bs hN h12 (List.all_eq_true.1 hx _ (List.getElem_mem hj))
   | succ i=>exact ih i y (by simpa using hy)
  ·cases hx

theorem TJ (h12:∀ g o,cx.S1 g o→cx.S2 g o)(hN:∀ g i,own g=some i→cx.N g)(hL:∀ z,SlotOk w cx own env (tvA a) z (L z))(hg:∀ gs b,g=some (gs,b)→env gs=[.bool b])(deps:List Nat):
  ∀ {cs:List Operand} {l:List Nat},WM L g cs=some l→(∀ b∈l,b∈deps)→∃ bl:List Nat,bl.length=l.length∧cs.map a.eval=bl.map (fun g=>Value.pointer (some ⟨g,0,none⟩))∧
   ∀ (i b gg:Nat),l[i]? =some b→bl[i]? =some gg→∃ (cur:Array Value) (T:TypeId),w.heap[gg]? =some (Obj.cells cur T (0,0))∧cur.size=(env b).length∧
    ∀ (j:Nat) (d:D),(env b)[j]? =some d→∃ v,w.cell? ⟨gg,j,none⟩=some v∧HV cx own deps gg j∧Rep w (HV cx own deps) d v
 | [],l,h,_=>by
  simp only [WM,Option.some.injEq] at h
  subst h
  exact ⟨[],rfl,rfl,fun i b gg h=>by simp at h⟩
 | x::r,l,h,hdep=>by
  simp only [WM] at h
  split at h
  ·rename_i b l' hb hl
   simp only [Option.some.injEq] at h
   subst h
   obtain ⟨bl,h1,h2,ih⟩:=TJ h12 hN hL hg deps hl (fun b hb=>hdep b (List.mem_cons_of_mem _ hb))
   have hbd:=hdep b (List.mem_cons_self ..)
   -- one box
   have key:∃ gg,a.eval x= .pointer (some ⟨gg,0,none⟩)∧∃ (cur:Array Value) (T:TypeId),w.heap[gg]? =some (Obj.cells cur T (0,0))∧cur.size=(env b).length∧
     ∀ (j:Nat) (d:D),(env b)[j]? =some d→∃ v,w.cell? ⟨gg,j,none⟩=some v∧HV cx own deps gg j∧Rep w (HV cx own deps) d v:=by
    have body:∀ ro cs,SlotOk w cx own env (tvA a) b (.box ro cs)→cs.all aCn=true→∃ gg,tvA a b= .pointer (some ⟨gg,0,none⟩)∧∃ (cur:Array Value) (T:TypeId),w.heap[gg]? =some (Obj.cells cur T (0,0))∧cur.size=(env b).length∧
     ∀ (j:Nat) (d:D),(env b)[j]? =some d→∃ v,w.cell? ⟨gg,j,none⟩=some v∧HV cx own deps gg j∧Rep w (HV cx own deps) d v:=by
     rintro ro cs ⟨gg,cur,T,h1,h2,h3,h4⟩ hcap
     have hl2:cur.size=(env b).length:=by have:=h3.2.1;simpa using this
     refine ⟨gg,h1,cur,T,h2,hl2,fun j dd hj=>?_⟩
     have hj1:j<(env b).length:=(List.getElem?_eq_some_iff.1 hj).1
     have hj2:j<cs.length:=by have:=h3.1;omega
     have hv:cur.toList[j]? =some cur[j]:=by simp [show j<cur.size by omega]
     have hc:=h3.2.2 j _ dd _ (List.getElem?_eq_getElem hj2) hj hv
     have hcc:=List.all_eq_true.1 hcap _ (List.getElem_mem hj2)
     refine ⟨cur[j],by rw [bM h2];simp [show j<cur.size by omega],?_,?_⟩
     ·cases ro with
      | true=>
       simp only [if_true] at h4
       exact .inl ⟨aW h4.1,h4.2.1 j (by omega)⟩
      | false=>
       simp only [Bool.false_eq_true,if_false] at h4
       exact .inr ⟨_,h4,hbd⟩
     ·have h5:=hc.2
      generalize cs[j]=c at h5 hcc
      cases c with
      | n=>obtain ⟨rfl,h6⟩:=h5;rw [h6];exact .nil _ _
      | s=>exact .scal h5
      | r=>exact Rep.sub h5 (fun g o h=> .inl (FF h12 h))
      | b=>exact Rep.sub h5 (fun g o h=> .inl h)
      | o m f=>exact OwnRep.rep h5 (fun g i o hi hlf=> .inr ⟨i,hi,by rw [hlf];exact hbd⟩) (fun g o h=> .inl (FF h12 h))
      | al h k m f=>cases hcc
      | x=>cases hcc
    unfold aBx at hb
    split at hb
    ·rename_i s
     have hs:=eV hL hg s
     split at hb
     ·rename_i ro cs he
      split at hb
      ·rename_i hcap
       simp only [Option.some.injEq] at hb
       subst hb
       rw [he] at hs
       exact body ro cs hs hcap
      ·cases hb
     ·rename_i b' he
      rw [he] at hs
      split at hb
      ·rename_i ro cs he2
       split at hb
       ·rename_i hcap
        simp only [Option.some.injEq] at hb
        subst hb
        have hb2:=hL b'
        rw [he2] at hb2
        obtain ⟨gg,h3,h4⟩:=body ro cs hb2 hcap
        obtain ⟨g2,h5,h6⟩:=hs
        rw [h3] at h5
        simp only [Value.pointer.injEq,Option.some.injEq,Addr.mk.injEq,and_true] at h5
        subst h5
        exact ⟨gg,h6,h4⟩
       ·cases hb
      ·cases hb
     ·cases hb
    ·cases hb
   obtain ⟨gg,h3,h4⟩:=key
   refine ⟨gg::bl,by simp [h1],by simp [h2,h3],fun i b' g' hi hg'=>?_⟩
   cases i with
   | zero=>
    simp only [List.getElem?_cons_zero,Option.some.injEq] at hi hg'
    subst hi;subst hg'
    exact h4
   | succ i=>exact ih i b' g' (by simpa using hi) (by simpa using hg')
  ·cases h

variable (hw:WOk w0 own0 cx own w)(hL:∀ z,SlotOk w cx own env (tvA a) z (L z))(hg:∀ gs b,g=some (gs,b)→env gs=[.bool b])
 (hod:o.dst=some d)(hd:d<a.tmps.size)(hn:∀ d sh,u.dst=some (d,sh)→sh.names d=false)(hp:pstep p env=some env')
include hw hL hg hod hd hn hp

theorem ZI {f:Nat}{fs cs:Array Operand}(ho:o.op= .makeFunc (.func f) fs cs)(hc:WN L g d f fs.toList cs.toList=some (u,p)):nM P cx own w a env o u env':=by
 unfold WN at hc
 split at hc
 ·rename_i l hf hcap
  simp only [bS,Option.some.injEq,Prod.mk.injEq] at hc
  obtain ⟨rfl,rfl⟩:=hc
  simp only [pstep,Option.some.injEq] at hp
  subst hp
  have hN:∀ g i,own g=some i→cx.N g:=fun g i hi=>(hw.dom g i hi).2
  obtain ⟨fvs,hfl,hfv⟩:=KZ hN hw.s1 hL hg hf
  obtain ⟨bl,hbl,hbe,hbv⟩:=TJ hw.s1 hN hL hg l hcap (fun b hb=>hb)
  have hr:(execOp a.eval o).run P w= .ok (.value (.func (.func f) (fs.map a.eval) (cs.map a.eval))) w:=by
   unfold execOp
   simp only [ho,Instr.makeFunc,Sem.run_bind,Sem.run_pure,Result.andThen_ok]
  have e1:fs.map a.eval=((((fs.toList.map fun x=>(zV L g x,cC x)).map fun p=>(p.1,p.2.get env)).zip fvs).map fun p=>wrapV p.1.1 p.2).toArray:=by
   apply Array.ext'
   rw [Array.toList_map]
   apply List.ext_getElem?
   intro i
   simp only [List.getElem?_map,List.getElem?_zip_eq_some,List.map_map]
   cases hi:fs.toList[i]? with
   | none=>
    have:fs.toList.length≤i:=by simpa using hi
    rw [List.getElem?_eq_none (l:=List.zip _ _) (by simp;omega)]
    rfl
   | some x=>
    obtain ⟨vs,h1,h2,_⟩:=hfv i x hi
    have:((fs.toList.map ((fun p:Bool×Opd=>(p.1,p.2.get env))∘fun x=>(zV L g x,cC x))).zip fvs)[i]? =some ((zV L g x,(cC x).get env),vs):=by
     rw [List.getElem?_zip_eq_some]
     exact ⟨by rw [List.getElem?_map,hi];rfl,h1⟩
    rw [this]
    simp only [Option.map_some,h2]
  have e2:cs.map a.eval=(bl.map fun g=>Value.pointer (some ⟨g,0,none⟩)).toArray:=by
   apply Array.ext'
   rw [Array.toList_map]
   exact hbe
  refine sR hw hod hd (hn _ _ rfl) rfl hr ⟨(fs.toList.map fun x=>(zV L g x,cC x)).map fun p=>(p.1,p.2.get env),l.map env,?_,?_⟩
  ·rw [aI]
  ·rw [aQ a d _ hd,if_pos rfl,e1,e2]
   have hget:∀ (i:Nat) (p:Bool×List D),((fs.toList.map fun x=>(zV L g x,cC x)).map fun p=>(p.1,p.2.get env))[i]? =some p→∃ x,fs.toList[i]? =some x∧p=(zV L g x,(cC x).get env):=by
    intro i p hp
    rw [List.getElem?_map,List.getElem?_map] at hp
    cases hi:fs.toList[i]? with
    | none=>rw [hi] at hp;cases hp
    | some x=>
     rw [hi] at hp
     simp only [Option.map_some,Option.some.injEq] at hp
     exact ⟨x,rfl,hp.symm⟩
   have hgetc:∀ (i:Nat) (c:List D),(l.map env)[i]? =some c→∃ b,l[i]? =some b∧c=env b:=by
    intro i c hc
    rw [List.getElem?_map] at hc
    cases hi:l[i]? with
    | none=>rw [hi] at hc;cases hc
    | some b=>
     rw [hi] at hc
     simp only [Option.map_some,Option.some.injEq] at hc
     exact ⟨b,rfl,hc.symm⟩
   refine .fn f _ _ fvs bl (fun i j=>(w.cell? ⟨bl.getD i 0,j,none⟩).getD undef) (by simp [hfl]) (by simp [hbl]) (fun i p vs hi hv=>?_) (fun i p vs j dd v hi hv hj hvj=>?_) (fun i c gg hi hgg=>?_) (fun i c gg j dd hi hgg hj=>?_) (fun i c gg j dd hi hgg hj=>?_)
   ·obtain ⟨x,hx,rfl⟩:=hget i p hi
    obtain ⟨vs',h1,_,h3,h4,_⟩:=hfv i x hx
    rw [hv] at h1
    simp only [Option.some.injEq] at h1
    subst h1
    exact ⟨h3,h4⟩
   ·obtain ⟨x,hx,rfl⟩:=hget i p hi
    obtain ⟨vs',h1,_,_,_,h5⟩:=hfv i x hx
    rw [hv] at h1
    simp only [Option.some.injEq] at h1
    subst h1
    exact Rep.sub (h5 j dd v hj hvj) (fun g o h=> .inl h)
   ·obtain ⟨b,hb,rfl⟩:=hgetc i c hi
    obtain ⟨cur,T,h1,h2,_⟩:=hbv i b gg hb hgg
    exact ⟨cur,T,h1,h2⟩
   ·obtain ⟨b,hb,rfl⟩:=hgetc i c hi
    obtain ⟨cur,T,h1,h2,h3⟩:=hbv i b gg hb hgg
    obtain ⟨v,h4,h5,h6⟩:=h3 j dd hj
    have:bl.getD i 0=gg:=by simp [List.getD,hgg]
    rw [this,h4]
    exact ⟨rfl,h5⟩
   ·obtain ⟨b,hb,rfl⟩:=hgetc i c hi
    obtain ⟨cur,T,h1,h2,h3⟩:=hbv i b gg hb hgg
    obtain ⟨v,h4,h5,h6⟩:=h3 j dd hj
    have:bl.getD i 0=gg:=by simp [List.getD,hgg]
    rw [this,h4]
    exact h6
 ·cases hc

end

end
section

def aX (u:Up)(i:OI):Option OI:=
 match i.leaf.2 with
 | 0=>if u.isDst i.leaf.1 then none else some i
 | k+1=>match u.find i.leaf.1 k with
  | some a=>match a.to with
   | .al d j _ _=>some {i with leaf:=(d,j+1) }
   | _=>match a.own with
    | .o _ _=>if u.isDst i.leaf.1||u.isTo i.leaf.1 k then none else some i
    | _=>none
  | none=>if u.isDst i.leaf.1||u.isTo i.leaf.1 k then none else some i

def aU (own:Own)(ρ:OI→Option OI)(n:Nat)(nb:Option OI):Own:=fun g=>if g=n then nb else (own g).bind ρ

theorem fQ {u:Up}{i i':OI}(h:aX u i=some i'):i'.path=i.path∧i'.bound=i.bound∧
  ((i'=i∧u.isDst i.leaf.1=false∧∀ k,i.leaf.2=k+1→u.isTo i.leaf.1 k=false)∨
   (∃ k a d j m f,i.leaf.2=k+1∧u.find i.leaf.1 k=some a∧a.to= .al d j m f∧i'.leaf=(d,j+1))):=by
 unfold aX at h
 split at h
 ·rename_i h0
  split at h
  ·cases h
  ·rename_i hd
   simp only [Option.some.injEq] at h
   subst h
   exact ⟨rfl,rfl,.inl ⟨rfl,by simpa using hd,fun k hk=>by rw [h0] at hk;cases hk⟩⟩
 ·rename_i k hk
  split at h
  ·rename_i a ha
   split at h
   ·rename_i d j m f hto
    simp only [Option.some.injEq] at h
    subst h
    exact ⟨rfl,rfl,.inr ⟨k,a,d,j,m,f,hk,ha,hto,rfl⟩⟩
   ·split at h
    ·split at h
     ·cases h
     ·rename_i hd
      simp only [Bool.or_eq_true,not_or,Bool.not_eq_true] at hd
      simp only [Option.some.injEq] at h
      subst h
      refine ⟨rfl,rfl,.inl ⟨rfl,hd.1,fun k' hk'=>?_⟩⟩
      have:k=k':=Nat.succ.inj (hk.symm.trans hk')
      subst this
      exact hd.2
    ·cases h
  ·rename_i ha
   split at h
   ·cases h
   ·rename_i hd
    simp only [Bool.or_eq_true,not_or,Bool.not_eq_true] at hd
    simp only [Option.some.injEq] at h
    subst h
    refine ⟨rfl,rfl,.inl ⟨rfl,hd.1,fun k' hk'=>?_⟩⟩
    have:k=k':=Nat.succ.inj (hk.symm.trans hk')
    subst this
    exact hd.2

theorem uR {u:Up}{i:OI}(h:¬u.A i.leaf):aX u i=some i:=by
 have hd:u.isDst i.leaf.1=false:=by
  cases hb:u.isDst i.leaf.1 with
  | false=>rfl
  | true=>exact absurd (.inl hb) h
 unfold aX
 split
 ·rw [hd];rfl
 ·rename_i k hk
  have hf:u.find i.leaf.1 k=none:=by
   cases hb:u.find i.leaf.1 k with
   | none=>rfl
   | some a=>exact absurd (.inr (.inr ⟨k,hk,.inl (by rw [hb];rfl)⟩)) h
  have ht:u.isTo i.leaf.1 k=false:=by
   cases hb:u.isTo i.leaf.1 k with
   | false=>rfl
   | true=>exact absurd (.inr (.inr ⟨k,hk,.inr hb⟩)) h
  rw [hf,hd,ht];rfl

theorem sI:∀ {aas:List Aff},bE aas=true→∀ {a b:Aff},a∈aas→b∈aas→a=b∨((¬(a.h=b.h∧a.i=b.i))∧∀ d j m f m' f',¬(a.to= .al d j m f∧b.to= .al d j m' f'))
 | [],_,a,b,ha,_=>by simp at ha
 | c::r,h,a,b,ha,hb=>by
  simp only [bE,Bool.and_eq_true,Bool.not_eq_true'] at h
  have key:∀ x∈r,(¬(x.h=c.h∧x.i=c.i))∧∀ d j m f m' f',¬(c.to= .al d j m f∧x.to= .al d j m' f'):=by
   intro x hx
   have:=List.any_eq_false.1 h.1 x hx
   simp only [Bool.or_eq_true,Bool.and_eq_true,not_or,not_and] at this
   refine ⟨fun ⟨h1,h2⟩=>this.1 (by rw [h1];exact Nat.beq_refl _) (by rw [h2];exact Nat.beq_refl _),fun d j m f m' f' ⟨h1,h2⟩=>this.2 ?_⟩
   rw [h1,h2]
   simp only [WG,CS.isTo,Bool.and_eq_true]
   exact ⟨Nat.beq_refl _,Nat.beq_refl _⟩
  rcases List.mem_cons.1 ha with ea | ha'
  ·rcases List.mem_cons.1 hb with eb | hb'
   ·exact .inl (ea.trans eb.symm)
   ·obtain ⟨h1,h2⟩:=key b hb'
    rw [ea]
    exact .inr ⟨fun ⟨e1,e2⟩=>h1 ⟨e1.symm,e2.symm⟩,h2⟩
  ·rcases List.mem_cons.1 hb with eb | hb'
   ·obtain ⟨h1,h2⟩:=key a ha'
    rw [eb]
    exact .inr ⟨h1,fun d j m f m' f' ⟨e1,e2⟩=>h2 d j m' f' m f ⟨e2,e1⟩⟩
   ·exact sI h.2 ha' hb'

theorem iF {u:Up}(h:bE u.aff=true){a:Aff}(ha:a∈u.aff):u.find a.h a.i=some a:=by
 cases hf:u.find a.h a.i with
 | none=>
  unfold Up.find at hf
  rw [List.find?_eq_none] at hf
  have:=hf a ha
  exact absurd (show (Nat.beq a.h a.h&&Nat.beq a.i a.i)=true by simp) this
 | some b=>
  obtain ⟨h1,h2,h3⟩:=Up.find_some hf
  rcases sI h ha h1 with h4 | h4
  ·rw [h4]
  ·exact absurd ⟨h2.symm,h3.symm⟩ h4.1

def dL (a:Aff):Prop:=a.own=a.to∧((∃ d j,a.to= .al d j a.m a.f)∨a.to= .r∨a.to= .x∨a.to= .b)

def xM (a:Aff):Prop:=a.own= .o a.m a.f∧a.to= .x

section
variable {w0:World}{own0:Own}{cx:Cx}{own own':Own}{w w':World}{env env':Env}{tv tv':Nat→Value}{u:Up}

theorem OwnRep.relab {lf lf':Nat×Nat}{m:Bool}{f:Fz}{d:D}{v:Value}(h:OwnRep w cx own lf m f d v)
  (hl:∀ g i,own g=some i→i.leaf=lf→own' g=some {i with leaf:=lf' }∧w'.heap[g]? =w.heap[g]?)
  (hr:∀ d v,Rep w (RS cx own) d v→Rep w' (RS cx own') d v):OwnRep w' cx own' lf' m f d v:=by
 cases h with
 | nil=>exact .nil
 | sl xs g cap cur T fr vs h1 h2 h3 h4 h5 h6 h7 h8 h9 h10=>
  obtain ⟨a,b⟩:=hl g _ h2 rfl
  refine .sl xs g cap cur T fr vs (b.trans h1) a h3 h4 h5 h6 h7 h8 h9 (fun i x j d hx hj=>?_)
  have h11:=h10 i x j d hx hj
  obtain ⟨sz,u⟩:=f
  cases u with
  | false=>exact hr _ _ h11
  | true=>exact InRep.keep h11 hl
 | ip xs v hf h1=>exact .ip xs v hf (InRep.keep h1 hl)

theorem OwnRep.frozen' {lf:Nat×Nat}{m:Bool}{f:Fz}{d:D}{v:Value}(h:OwnRep w cx own lf m f d v)
  (hl:∀ g i,own g=some i→i.leaf=lf→own' g=none∧cx.N g∧w'.heap[g]? =w.heap[g]?)
  (hr:∀ d v,Rep w (RS cx own) d v→Rep w' (RS cx own') d v):Rep w' (RS cx own') d v:=by
 cases h with
 | nil=>exact .nil _ _
 | sl xs g cap cur T fr vs h1 h2 h3 h4 h5 h6 h7 h8 h9 h10=>
  obtain ⟨ha,hb,hc⟩:=hl g _ h2 rfl
  refine .sl xs g 0 f.sz cap vs h3 h8 (fun i x j d hx hj=>by rw [Nat.zero_add,bM (hc.trans h1)];exact h9 i x j d hx hj) (fun i x j d hx hj=>⟨ha,.inr hb⟩) (fun i x j d hx hj=>?_)
  have h11:=h10 i x j d hx hj
  obtain ⟨sz,u⟩:=f
  cases u with
  | false=>exact hr _ _ h11
  | true=>exact InRep.rep h11 (fun g i o hi hl' _=>⟨⟨(hl g i hi hl').1,.inr (hl g i hi hl').2.1⟩,(hl g i hi hl').2.2⟩)
 | ip xs v hf h1=>exact InRep.rep h1 (fun g i o hi hl' _=>⟨⟨(hl g i hi hl').1,.inr (hl g i hi hl').2.1⟩,(hl g i hi hl').2.2⟩)

structure HeapOk (own:Own) (w w':World) (u:Up) (gb:Nat→Prop):Prop where
 os:w'.os=w.os
 tape:w'.tape=w.tape
 output:w'.output=w.output
 size:w.heap.size≤w'.heap.size
 same:∀ g,g<w.heap.size→¬gb g→w'.heap[g]? =w.heap[g]?
 lab:∀ g,gb g→∃ i,own g=some i∧u.A i.leaf
 cell:∀ g o,gb g→¬claimed own g o→w'.cell? ⟨g,o,none⟩=w.cell? ⟨g,o,none⟩
 row:∀ (g:Nat) (cur:Array Value) (T:TypeId),gb g→w.heap[g]? =some (Obj.cells cur T (0,0))→∃ cur':Array Value,w'.heap[g]? =some (Obj.cells cur' T (0,0))∧cur'.size=cur.size

theorem HeapOk.kept {gb:Nat→Prop}(h:HeapOk own w w' u gb):Kept own w w':=by
 refine ⟨h.os,h.tape,h.output,h.size,fun g hg hn=>h.same g hg (fun hb=>?_),fun g o hg hc=>?_,fun g cur T hh=>?_⟩
 ·obtain ⟨i,hi,_⟩:=h.lab g hb
  rw [hn] at hi;cases hi
 ·rcases Classical.em (gb g) with hb | hb
  ·exact h.cell g o hb hc
  ·simp [World.cell?,h.same g hg hb]
 ·rcases Classical.em (gb g) with hb | hb
  ·exact h.row g cur T hb hh
  ·exact ⟨cur,by rw [h.same g (DB hh) hb];exact hh,rfl⟩

theorem mH (hw:WOk w0 own0 cx own w){ρ:OI→Option OI}{nb:Option OI}{g:Nat}{i:OI}(hi:own g=some i):aU own ρ w.heap.size nb g=ρ i:=by
 have:=(hw.dom g i hi).1
 unfold aU
 rw [if_neg (by omega),hi]
 rfl

theorem oX {ρ:OI→Option OI}{nb:Option OI}{g gi:Nat}{i:OI}(hi:own g=some i)(hne:g≠gi):aU own ρ gi nb g=ρ i:=by
 unfold aU
 rw [if_neg hne,hi]
 rfl

theorem eC (hw:WOk w0 own0 cx own w){ρ:OI→Option OI}{nb:Option OI}{g gi:Nat}{i':OI}(h:aU own ρ gi nb g=some i'):
  (g=gi∧nb=some i')∨(g≠gi∧g<w.heap.size∧∃ i,own g=some i∧ρ i=some i'):=by
 unfold aU at h
 split at h
 ·rename_i hg;exact .inl ⟨hg,h⟩
 ·rename_i hg
  cases ho:own g with
  | none=>rw [ho] at h;cases h
  | some i=>rw [ho] at h;exact .inr ⟨hg,(hw.dom g i ho).1,i,rfl,h⟩

def Ln (own:Own)(w w':World)(u:Up)(gi:Nat)(nb:Option OI):Prop:=
 (gi=w.heap.size∧∀ k,nb=some k→w.heap.size<w'.heap.size)∨
 (∃ i0,own gi=some i0∧u.A i0.leaf∧∀ k,nb=some k→∀ o,(∃ b,k.bound=some b∧b≤o)→∃ b,i0.bound=some b∧b≤o)

theorem NL (hw:WOk w0 own0 cx own w){gi:Nat}{nb:Option OI}{gb:Nat→Prop}(hh:HeapOk own w w' u gb)(hnd:bE u.aff=true)(hgi:Ln own w w' u gi nb)
  (hnb:∀ k,nb=some k→u.isDst k.leaf.1=true∧(k.leaf.2=0∨∀ a∈u.aff,∀ d j m f,a.to≠ .al d j m f))
  (henv:∀ s,¬u.W s→env' s=env s)(htv:∀ s,u.d≠some s→tv' s=tv s):
  Step cx own w env tv u.A u.W u.d (aU own (aX u) gi nb) w' env' tv' where
 kept:=hh.kept
 none':=fun g hg hn=>by
  cases h:aU own (aX u) gi nb g with
  | none=>rfl
  | some i=>
   rcases eC hw h with ⟨h1,_⟩ | ⟨_,_,j,h1,_⟩
   ·rcases hgi with ⟨h2,_⟩ | ⟨i0,h2,_⟩
    ·omega
    ·rw [←h1,hn] at h2;cases h2
   ·rw [hn] at h1;cases h1
 unc:=fun g o hg hc hc'=>by
  obtain ⟨i',b,h1,h2,h3⟩:=hc'
  rcases eC hw h1 with ⟨h4,h4'⟩ | ⟨_,_,i,h4,h5⟩
  ·rcases hgi with ⟨h5,_⟩ | ⟨i0,h5,_,h6⟩
   ·omega
   ·obtain ⟨b',h7,h8⟩:=h6 i' h4' o ⟨b,h2,h3⟩
    exact hc ⟨i0,b',by rw [h4];exact h5,h7,h8⟩
  ·obtain ⟨_,h6,_⟩:=fQ h5
   exact hc ⟨i,b,h4,by rw [←h6];exact h2,h3⟩
 lab:=fun g i hi hA=>by
  have hne:g≠gi:=by
   rintro rfl
   rcases hgi with ⟨h2,_⟩ | ⟨i0,h2,h3,_⟩
   ·have:=(hw.dom g i hi).1;omega
   ·rw [hi] at h2
    simp only [Option.some.injEq] at h2
    subst h2
    exact hA h3
  refine ⟨by rw [oX hi hne];exact uR hA,hh.same g (hw.dom g i hi).1 (fun hb=>?_)⟩
  obtain ⟨j,h1,h2⟩:=hh.lab g hb
  rw [hi] at h1
  simp only [Option.some.injEq] at h1
  subst h1
  exact hA h2
 new:=fun g i' h=>by
  rcases eC hw h with ⟨h1,h2⟩ | ⟨_,h1,i,h2,h3⟩
  ·rcases hgi with ⟨h4,h5⟩ | ⟨i0,h4,_⟩
   ·rw [h1,h4]
    exact ⟨h5 i' h2,(hw.n _).2 (.inl hw.kept.size)⟩
   ·rw [h1]
    exact ⟨Nat.lt_of_lt_of_le (hw.dom gi i0 h4).1 hh.size,(hw.dom gi i0 h4).2⟩
  ·exact ⟨Nat.lt_of_lt_of_le h1 hh.size,(hw.dom g i h2).2⟩
 inj:=fun g g' i' j' h h' hl hp=>by
  have cross:∀ {g g':Nat} {i' j':OI},g=gi→nb=some i'→(∃ j,own g'=some j∧aX u j=some j')→i'.leaf=j'.leaf→False:=by
   intro g g' i' j' _ h2 ⟨j,h3,h4⟩ hl
   obtain ⟨h5,h6⟩:=hnb i' h2
   obtain ⟨_,_,h7⟩:=fQ h4
   rcases h7 with ⟨h8,h9,_⟩ | ⟨k,a,d,jj,m,f,h8,h9,h10,h11⟩
   ·rw [←h8,←hl,h5] at h9;cases h9
   ·rcases h6 with h6 | h6
    ·rw [hl,h11] at h6;simp at h6
    ·exact h6 a (Up.find_some h9).1 d jj m f h10
  rcases eC hw h with ⟨h1,h2⟩ | ⟨_,h1,i,h2,h3⟩
  ·rcases eC hw h' with ⟨h4,h5⟩ | ⟨_,h4,j,h5,h6⟩
   ·rw [h1,h4]
   ·exact (cross h1 h2 ⟨j,h5,h6⟩ hl).elim
  ·rcases eC hw h' with ⟨h4,h5⟩ | ⟨_,h4,j,h5,h6⟩
   ·exact (cross h4 h5 ⟨i,h2,h3⟩ hl.symm).elim
   ·obtain ⟨p1,_,q1⟩:=fQ h3
    obtain ⟨p2,_,q2⟩:=fQ h6
    have hpp:i.path=j.path:=by rw [←p1,←p2];exact hp
    have mixed:∀ {i j i' j':OI},(i'=i∧u.isDst i.leaf.1=false∧∀ k,i.leaf.2=k+1→u.isTo i.leaf.1 k=false)→
      (∃ k a d jj m f,j.leaf.2=k+1∧u.find j.leaf.1 k=some a∧a.to= .al d jj m f∧j'.leaf=(d,jj+1))→i'.leaf=j'.leaf→False:=by
     rintro i j i' j' ⟨rfl,_,h1⟩ ⟨k,a,d,jj,m,f,_,h2,h3,h4⟩ hl
     have h5:i'.leaf.2=jj+1:=by rw [hl,h4]
     have h6:=h1 jj h5
     have h7:i'.leaf.1=d:=by rw [hl,h4]
     rw [h7] at h6
     have:=List.any_eq_false.1 h6 a (Up.find_some h2).1
     rw [h3] at this
     simp [CS.isTo] at this
    rcases q1 with q1 | q1
    ·rcases q2 with q2 | q2
     ·exact hw.inj g g' i j h2 h5 (by rw [←q1.1,←q2.1];exact hl) hpp
     ·exact (mixed q1 q2 hl).elim
    ·rcases q2 with q2 | q2
     ·exact (mixed q2 q1 hl.symm).elim
     ·obtain ⟨k,a,d,jj,m,f,r1,r2,r3,r4⟩:=q1
      obtain ⟨k',a',d',jj',m',f',s1,s2,s3,s4⟩:=q2
      rw [r4,s4] at hl
      simp only [Prod.mk.injEq,Nat.add_right_cancel_iff] at hl
      obtain ⟨rfl,rfl⟩:=hl
      obtain ⟨t1,t2,t3⟩:=Up.find_some r2
      obtain ⟨v1,v2,v3⟩:=Up.find_some s2
      rcases sI hnd t1 v1 with rfl | hne
      ·refine hw.inj g g' i j h2 h5 (Prod.ext (t2.symm.trans v2) ?_) hpp
       rw [r1,s1,←t3,←v3]
      ·exact absurd ⟨r3,s3⟩ (hne.2 d jj m f m' f')
 env:=henv
 tv:=htv

theorem Ka (hw:WOk w0 own0 cx own w){gi:Nat}{nb:Option OI}{gb:Nat→Prop}(hh:HeapOk own w w' u gb)
  (hgb:∀ g i,(gb g∨g=gi)→own g=some i→i.leaf.2=0∨(∃ a∈u.aff,xM a∧i.leaf=(a.h,a.i+1))∨(∃ a∈u.aff,dL a∧i.leaf=(a.h,a.i+1)∧∀ x v,OwnRep w cx own (a.h,a.i+1) a.m a.f x v→∀ s i,CellIs w' cx (aU own (aX u) gi nb) s i a.to x v))(hnd:bE u.aff=true)
  (hm:∀ a∈u.aff,dL a∨(xM a∧u.W a.h))
  (st:Step cx own w env tv u.A u.W u.d (aU own (aX u) gi nb) w' env' tv'):AffOk cx own w u (aU own (aX u) gi nb) w':=by
 have hsame:∀ g i,own g=some i→i.leaf.2≠0→(∀ a∈u.aff,(xM a∨(dL a∧∀ x v,OwnRep w cx own (a.h,a.i+1) a.m a.f x v→∀ s i,CellIs w' cx (aU own (aX u) gi nb) s i a.to x v))→i.leaf≠(a.h,a.i+1))→w'.heap[g]? =w.heap[g]? ∧g≠gi:=fun g i hi h0 hk=>by
  have hno:¬(gb g∨g=gi):=fun hb=>by
   rcases hgb g i hb hi with h | ⟨a,ha,hka,hl⟩ | ⟨a,ha,hma,hl,hx⟩
   ·exact h0 h
   ·exact hk a ha (.inl hka) hl
   ·exact hk a ha (.inr ⟨hma,hx⟩) hl
  exact ⟨hh.same g (hw.dom g i hi).1 (fun hb=>hno (.inl hb)),fun e=>hno (.inr e)⟩
 have to:∀ a∈u.aff,dL a→∀ x v,OwnRep w cx own (a.h,a.i+1) a.m a.f x v→∀ s i,CellIs w' cx (aU own (aX u) gi nb) s i a.to x v:=by
  intro a ha hma
  rcases Classical.em (∀ x v,OwnRep w cx own (a.h,a.i+1) a.m a.f x v→∀ s i,CellIs w' cx (aU own (aX u) gi nb) s i a.to x v) with hcus | hcus
  ·exact hcus
  intro x v ho s i
  have hf:=iF hnd ha
  have hs2:∀ g i,own g=some i→i.leaf=(a.h,a.i+1)→w'.heap[g]? =w.heap[g]? ∧g≠gi:=by
   intro g i hi hl
   refine hsame g i hi (by rw [hl];simp) (fun b hb hkb he=>?_)
   rw [hl] at he
   simp only [Prod.mk.injEq,Nat.add_right_cancel_iff] at he
   rcases sI hnd ha hb with rfl | hne
   ·rcases hkb with hkb | ⟨_,hx⟩
    ·have h1:=hma.1
     rw [hkb.1,hkb.2] at h1
     cases h1
    ·exact hcus hx
   ·exact hne.1 he
  have gone:a.own=a.to→(∀ d j m f,a.to≠ .al d j m f)→(∀ m f,a.to≠ .o m f)→Rep w' (RS cx (aU own (aX u) gi nb)) x v:=by
   intro e1 e2 e3
   refine OwnRep.frozen' ho (fun g i hi hl=>⟨?_,(hw.dom g i hi).2,(hs2 g i hi hl).1⟩) (fun d v h=>st.rs h)
   rw [oX hi (hs2 g i hi hl).2]
   unfold aX
   have h2:i.leaf.2=a.i+1:=by rw [hl]
   have h1:i.leaf.1=a.h:=by rw [hl]
   rw [h2,h1]
   simp only [hf]
   rw [e1]
   clear ho hma
   generalize a.to=c at e2 e3
   cases c with
   | al d j m f=>exact absurd rfl (e2 d j m f)
   | o m f=>exact absurd rfl (e3 m f)
   | _=>rfl
  rcases hma.2 with ⟨d,j,hto⟩ | hto | hto | hto
  ·rw [hto]
   refine OwnRep.relab (lf':=(d,j+1)) ho (fun g i hi hl=>⟨?_,(hs2 g i hi hl).1⟩) (fun d v h=>st.rs h)
   rw [oX hi (hs2 g i hi hl).2]
   unfold aX
   have h2:i.leaf.2=a.i+1:=by rw [hl]
   have h1:i.leaf.1=a.h:=by rw [hl]
   rw [h2,h1]
   simp only [hf,hto]
  ·have:=gone hma.1 (by rw [hto];simp) (by rw [hto];simp)
   rw [hto];exact this
  ·rw [hto];trivial
  ·have:=gone hma.1 (by rw [hto];simp) (by rw [hto];simp)
   rw [hto];exact this.sub (fun g o=>FF hw.s1)
 refine ⟨fun a ha m f=>?_,fun a ha x v ho s i=>?_,fun a ha hW x v ho=>?_,fun h i hd hf m f x v ho=>?_⟩
 ·rcases hm a ha with hma | ⟨hka,_⟩
  ·rcases hma.2 with ⟨d,j,hto⟩ | hto | hto | hto<;>rw [hto]<;>simp
  ·rw [hka.2];simp
 ·rcases hm a ha with hma | ⟨hka,_⟩
  ·exact to a ha hma x v ho s i
  ·rw [hka.2];trivial
 ·rcases hm a ha with hma | ⟨_,hkw⟩
  ·rw [hma.1];exact to a ha hma x v ho _ _
  ·exact absurd hkw hW
 ·have hs3:∀ g j,own g=some j→j.leaf=(h,i+1)→w'.heap[g]? =w.heap[g]? ∧g≠gi:=fun g j hj hl=>by
   refine hsame g j hj (by rw [hl];simp) (fun b hb hkb he=>?_)
   rw [hl] at he
   simp only [Prod.mk.injEq,Nat.add_right_cancel_iff] at he
   have:=iF hnd hb
   rw [←he.1,←he.2,hf] at this
   cases this
  refine OwnRep.frozen' ho (fun g j hj hl=>⟨?_,(hw.dom g j hj).2,(hs3 g j hj hl).1⟩) (fun d v h=>st.rs h)
  rw [oX hj (hs3 g j hj hl).2]
  unfold aX
  have h2:j.leaf.2=i+1:=by rw [hl]
  have h1:j.leaf.1=h:=by rw [hl]
  rw [h2,h1]
  simp [hf,hd]

theorem Wg (hw:WOk w0 own0 cx own w){nb:Option OI}{gb:Nat→Prop}(hh:HeapOk own w w' u gb)(hnd:bE u.aff=true)
  (hnb:∀ k,nb=some k→w.heap.size<w'.heap.size∧u.isDst k.leaf.1=true∧(k.leaf.2=0∨∀ a∈u.aff,∀ d j m f,a.to≠ .al d j m f))
  (henv:∀ s,¬u.W s→env' s=env s)(htv:∀ s,u.d≠some s→tv' s=tv s):
  Step cx own w env tv u.A u.W u.d (aU own (aX u) w.heap.size nb) w' env' tv':=
 NL hw hh hnd (.inl ⟨rfl,fun k hk=>(hnb k hk).1⟩) (fun k hk=>(hnb k hk).2) henv htv

theorem UN (hw:WOk w0 own0 cx own w){nb:Option OI}{gb:Nat→Prop}(hh:HeapOk own w w' u gb)(hgb:∀ g i,gb g→own g=some i→i.leaf.2=0∨∃ a∈u.aff,xM a∧i.leaf=(a.h,a.i+1))(hnd:bE u.aff=true)
  (hm:∀ a∈u.aff,dL a∨(xM a∧u.W a.h))
  (st:Step cx own w env tv u.A u.W u.d (aU own (aX u) w.heap.size nb) w' env' tv'):AffOk cx own w u (aU own (aX u) w.heap.size nb) w':=
 Ka hw hh (fun g i h hi=>by
  rcases h with h | h
  ·exact (hgb g i h hi).imp id .inl
  ·have:=(hw.dom g i hi).1
   omega) hnd hm st

end

end
end V
end Go.Proofs.YtgekfemnjphmbaaGreat
