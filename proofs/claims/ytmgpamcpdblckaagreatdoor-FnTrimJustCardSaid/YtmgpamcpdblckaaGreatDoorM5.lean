/-
Part 5 of the proof of the claimed statement (its last part holds the theorem, and says what is proved). Conditions: none.
-/
import Derived.Test.YtmgpamcpdblckaaGreatDoorM4
import Derived.LoopTactic
import Derived.StillTailTactics
import Derived.Test.YtmgpamcpdblckaaGreatDoorChecked
import Derived.Tactics
import Derived.Tactics2
import Derived.WalkKit
import Derived.RowKit3
import Derived.RegionTactic
import Derived.Lib.AppendZerosOnto
import Derived.Laws.NewBlocks
import Derived.Shelf.Spec.SlicesInsert
import Derived.Lib.SplitLaws
import Derived.Lib.IndexBytes
import Derived.Lib.IndexMore
import Derived.Lib.Atoi
import Derived.Lib.AtoiAll
set_option linter.all false
set_option maxRecDepth 100000
/-
The text of a package, as the program writes it.
-/
namespace Go.Proofs.YtmgpamcpdblckaaGreatDoor
open Go.Shelf Go.RowKit
open Classical
set_option maxRecDepth 100000
set_option maxHeartbeats 4000000

theorem uR {w w1:World}{d:V.D}{v:Value}(h:V.Rep w (V.InW w) d v)(hb:Below w.heap.size w w1):V.Rep w1 (V.InW w1) d v:=
 (V.inW_below h hb (Nat.le_refl _)).mono (fun _ _ _=>rfl) (fun g cur T h=>⟨cur,h,rfl⟩) (fun g o h=>Nat.lt_of_lt_of_le h hb.size)
theorem eE (w:World)(o:Obj):Below w.heap.size w (w.alloc o):=(Below.refl _ w).alloc (Nat.le_refl _) o
theorem gY {B:Nat}{w w':World}(h:Below B w w')(g o:Nat)(hg:g<B):w'.cell? ⟨g,o,none⟩=w.cell? ⟨g,o,none⟩:=by
 simp only [World.cell?,h.block g hg]
theorem BT (w:World)(x:Obj)(g o:Nat)(hg:g<w.heap.size):(w.alloc x).cell? ⟨g,o,none⟩=w.cell? ⟨g,o,none⟩:=gY (eE w x) g o hg
abbrev RA (b:Nat)(l:List UInt8)(w:World):Prop:=Lib.IsBuilderF 90 5 b b (Lib.byteCells l) w
theorem qR (l:List UInt8):Lib.strCells (V.bA l)=Lib.byteCells l:=by
 simp [Lib.strCells,Lib.byteCells,V.bA]
theorem Fp (w:World)(cs:Array Value)(T:TypeId)(j:Nat):(w.alloc (.cells cs T)).drew.cell? ⟨w.heap.size,j,none⟩=cs[j]? :=by
 have:(w.alloc (.cells cs T)).drew.heap[w.heap.size]? =some (.cells cs T (0,0)):=heap_alloc_new w _
 simp only [World.cell?,this]
 rfl
theorem Hj {P:Program}{id:Nat}{Q:Exit→Act→World→Prop}{a:Act}{w:World}{l:List Oper}(n:Nat)(hm:P.follows .mixedOrders=true)(hB:Region.lexTailB .any l.toArray n=true)(w5:World)(h5:w5=w.drew)
  (h:wpStill P l.toArray w5 (fun a'=>wpList P l.toArray Q (l.drop n) a' w5) (l.take n) a):(Code.region id l.toArray true).wp P Q a w:=by
 subst h5
 exact wp_region_still_tail n hm hB h
theorem Hk {B:Nat}{w w':World}(h:Below B w w'):Below B w w'.drew:=⟨h.os,h.tape,h.output,h.size,h.block⟩
theorem uS {α:Type}(f:α→List UInt8)(n:Nat)(hf:∀ x,(f x).length=n):∀ xs:List α,(xs.flatMap f).length=n*xs.length
 | []=>by simp
 | x::r=>by
  have:=uS f n hf r
  simp [hf,this,Nat.mul_add,Nat.add_comm]
theorem Hl {p:V.Pk}(hP:V.PkOk p)(k:Nat)(hk:k≤p.files.length):(V.nmT p.name p.ver++(p.files.take k).flatMap V.fT).length≤10:=by
 have h1:(p.files.length:Int)≤2:=hP.2.2.1.2
 rw [List.length_append,uS V.fT 4 (fun _=>rfl),List.length_take]
 simp only [V.nmT,List.length_cons,List.length_nil]
 omega
theorem Fq {p:V.Pk}(hP:V.PkOk p)(k:Nat)(hk:k≤p.deps.length):(V.nmT p.name p.ver++p.files.flatMap V.fT++(p.deps.take k).flatMap V.dT).length≤16:=by
 have h1:(p.files.length:Int)≤2:=hP.2.2.1.2
 have h2:(p.deps.length:Int)≤2:=hP.2.2.2.2
 rw [List.length_append,List.length_append,uS V.fT 4 (fun _=>rfl),uS V.dT 3 (fun _=>rfl),List.length_take]
 simp only [V.nmT,List.length_cons,List.length_nil]
 omega
theorem Cn {α:Type}[Inhabited α](f:α→List UInt8)(xs:List α)(k:Nat)(hk:k<xs.length):(xs.take (k+1)).flatMap f=(xs.take k).flatMap f++f (V.ix xs k):=by
 have:xs.take (k+1)=xs.take k++[V.ix xs k]:=by
  rw [List.take_add_one]
  simp [V.ix,hk]
 rw [this]
 simp
theorem Ds (p:V.Pk)(hs:V.SmP p)(v1 v2:Value)(w:World)(h1:V.Rep w (V.InW w) (.sl (p.files.map V.eP2)) v1)(h2:V.Rep w (V.InW w) (.sl (p.deps.map V.eP2)) v2):
  Calls Tryz.prog 16 #[.agg #[.int .i64 p.name,.int .i64 p.ver,v1,v2]] w fun e w'=>e= .returned (.string (V.bA (V.textM p)))∧Below w.heap.size w w':=by
 have mixed:Tryz.prog.follows .mixedOrders=true:=V.mixed
 go_enter Tryz.func16,Tryz.ntmps16
 go_wp2_with (go_at_call 51;refine (V.pkgOk_call p hs v1 v2 _ (uR h1 (eE w _)) (uR h2 (eE w _))).mono ?_)
 rintro e w2 ⟨rfl,hb2⟩
 have hsz2:w.heap.size<w2.heap.size:=by
  have:=hb2.size
  simp at this
  omega
 have hb0:Below w.heap.size w w2:=(eE w _).trans (hb2.mono (by simp))
 have hbx:w2.heap[w.heap.size]? =some (.cells #[.int .i64 p.name,.int .i64 p.ver,v1,v2] 41 (0,0)):=by
  rw [hb2.block _ (by simp)]
  exact heap_alloc_new w _
 have r1:=uR h1 hb0
 have r2:=uR h2 hb0
 by_cases hP:V.PkOk p
 ·have hd:decide (V.PkOk p)=true:=decide_eq_true hP
  rw [hd]
  obtain ⟨A1,cap1,rfl,_,row1⟩:=V.rep_row r1
  obtain ⟨A2,cap2,rfl,_,row2⟩:=V.rep_row r2
  clear hb2 h1 h2 r1 r2
  have c0:∀ x,(w2.alloc x).cell? ⟨w.heap.size,0,none⟩=some (.int .i64 p.name):=fun x=>by rw [BT w2 x _ _ hsz2];simp only [World.cell?,hbx];rfl
  have c1:∀ x,(w2.alloc x).cell? ⟨w.heap.size,1,none⟩=some (.int .i64 p.ver):=fun x=>by rw [BT w2 x _ _ hsz2];simp only [World.cell?,hbx];rfl
  go_wp2_with (go_at_call 53;refine (BR p.name p.ver hP.1 hP.2.1 _).mono ?_;rintro e w' ⟨rfl,rfl⟩)
  refine (nE w2.heap.size w2.heap.size [] (V.bA (V.nmT p.name p.ver)) _ (Lib.IsBuilderF.of (Lib.fresh_isBuilder 90 5 w2)) (by rw [V.bA_size];simp [V.nmT]) (by simp)).mono ?_
  rintro e w3 ⟨rfl,hB3,hbl3,_⟩
  have hI3:RA w2.heap.size (V.nmT p.name p.ver) w3:= .inr (by rw [←qR];simpa using hB3)
  have hb3:Below w2.heap.size w2 w3:=(eE w2 _).trans hbl3
  clear c0 c1 hB3 hbl3
  have c2:w3.cell? ⟨w.heap.size,2,none⟩=some (.slice A1 p.files.length cap1):=by rw [gY hb3 _ _ hsz2];simp only [World.cell?,hbx];rfl
  go_wp2
  go_loopw [20] (fun i wr=>∃ k:Nat,i= .int .i64 k∧k≤p.files.length∧RA w2.heap.size (V.nmT p.name p.ver++(p.files.take k).flatMap V.fT) wr∧Below w2.heap.size w2 wr) (fun i wr=>p.files.length - (intOf i).toNat)
  case atStart=>exact ⟨0,rfl,by omega,by simpa using hI3,hb3⟩
  case round=>
   obtain ⟨k,rfl,hk,hI,hbw⟩:=hrel
   clear c2
   by_cases hlt:k<p.files.length
   ·obtain ⟨g,off,rfl,hcap,hg,x0,x1⟩:=row1 k hlt
    have y0:=(gY hbw g (off+k*2) (by omega)).trans x0
    have y1:=(gY hbw g (off+k*2+1) (by omega)).trans x1
    have hfl:(p.files.length:Int)≤2:=hP.2.2.1.2
    obtain ⟨fa,fb,_⟩:=hP.2.2.1.1 k (by omega) (by omega)
    obtain ⟨a,ha⟩:∃ a:Nat,(V.ix p.files k).a=a:=⟨(V.ix p.files k).a.toNat,by omega⟩
    obtain ⟨b,hb⟩:∃ b:Nat,(V.ix p.files k).b=b:=⟨(V.ix p.files k).b.toNat,by omega⟩
    rw [ha] at y0
    rw [hb] at y1
    have da:=QA a (by omega)
    have db:=QA b (by omega)
    go_wp2
    obtain ⟨W5,hW5⟩:∃ W5:World,W5=(wr.alloc (Obj.cells #[.int .i64 a,.int .i64 b] 97)).drew:=⟨_,rfl⟩
    have z0:W5.cell? ⟨wr.heap.size,0,none⟩=some (.int .i64 a):=by rw [hW5];exact Fp wr _ _ 0
    have z1:W5.cell? ⟨wr.heap.size,1,none⟩=some (.int .i64 b):=by rw [hW5];exact Fp wr _ _ 1
    refine Hj 9 mixed (by kernel_rfl) W5 hW5 ?_
    simp only [List.take_succ_cons,List.take_zero,List.drop_succ_cons,List.drop_zero]
    repeat still_step
    still_call (Tryz.strconv_Itoa_small a (by omega) _)
    repeat still_step
    still_call (Tryz.strconv_Itoa_small b (by omega) _)
    repeat still_step
    refine wpStill_nil ?_
    have hstr:((⟨#[32]⟩:ByteArray)++⟨#[V.u8 (48+(a:Int))]⟩++⟨#[58]⟩++⟨#[V.u8 (48+(b:Int))]⟩)=V.bA (V.fT (V.ix p.files k)):=by
     show V.bA [32]++V.bA [V.u8 (48+(a:Int))]++V.bA [58]++V.bA [V.u8 (48+(b:Int))]=_
     rw [V.bA_app,V.bA_app,V.bA_app]
     simp [V.fT,ha,hb]
    have hI5:RA w2.heap.size (V.nmT p.name p.ver++(p.files.take k).flatMap V.fT) W5:=by rw [hW5];exact hI.alloc _
    have hb5:Below w2.heap.size w2 W5:=hbw.trans (by rw [hW5];exact Hk ((eE wr _).mono hbw.size))
    clear hW5 z0 z1 y0 y1
    go_wp2_with (go_at_call 52;refine (nE w2.heap.size w2.heap.size _ _ W5 hI5 ?hq1 hb5.size).mono ?_)
    case hq1=>
     have hl:=Hl hP k hk
     rw [V.bA_size,Lib.byteCells_length]
     rw [show (V.fT (V.ix p.files k)).length=4 from rfl]
     omega
    rintro e w6 ⟨rfl,hB6,hbl6,_⟩
    go_wp2
    go_roundw
    case rel=>
     refine ⟨k+1,rfl,by omega,.inr ?_,hb5.trans hbl6⟩
     rw [qR,←Lib.byteCells_append] at hB6
     rw [Cn V.fT p.files k hlt,←List.append_assoc]
     exact hB6
    case measure=>simp only [intOf];omega
   ·have hk':k=p.files.length:=by omega
    subst hk'
    rw [List.take_length] at hI
    have c3:wr.cell? ⟨w.heap.size,3,none⟩=some (.slice A2 p.deps.length cap2):=by rw [gY hbw _ _ hsz2];simp only [World.cell?,hbx];rfl
    clear row1
    go_wp2
    go_loopw [38] (fun i wr=>∃ k:Nat,i= .int .i64 k∧k≤p.deps.length∧RA w2.heap.size (V.nmT p.name p.ver++p.files.flatMap V.fT++(p.deps.take k).flatMap V.dT) wr∧Below w2.heap.size w2 wr) (fun i wr=>p.deps.length - (intOf i).toNat)
    case atStart=>exact ⟨0,rfl,by omega,by simpa using hI,hbw⟩
    case round=>
     clear hI hbw c3
     obtain ⟨k,rfl,hk,hI,hbw⟩:=hrel
     have hdl:(p.deps.length:Int)≤2:=hP.2.2.2.2
     by_cases hlt:k<p.deps.length
     ·obtain ⟨g,off,rfl,hcap,hg,x0,x1⟩:=row2 k hlt
      have y0:=(gY hbw g (off+k*2) (by omega)).trans x0
      have y1:=(gY hbw g (off+k*2+1) (by omega)).trans x1
      obtain ⟨fa,_,fb,_⟩:=hP.2.2.2.1 k (by omega) (by omega)
      have hz:¬9223372036854775807<1+(V.bA (V.nmT (V.ix p.deps k).a (V.ix p.deps k).b)).size:=by rw [V.bA_size];simp [V.nmT]
      go_wp2_with (go_at_call 53;refine (BR _ _ fa fb _).mono ?_;rintro e w' ⟨rfl,rfl⟩)
      have hstr:((⟨#[32]⟩:ByteArray)++V.bA (V.nmT (V.ix p.deps k).a (V.ix p.deps k).b))=V.bA (V.dT (V.ix p.deps k)):=by
       show V.bA [32]++V.bA _=_
       rw [V.bA_app]
       rfl
      have hI5:RA w2.heap.size (V.nmT p.name p.ver++p.files.flatMap V.fT++(p.deps.take k).flatMap V.dT) (wr.alloc (Obj.cells #[.int .i64 (V.ix p.deps k).a,.int .i64 (V.ix p.deps k).b] 100)):=hI.alloc _
      have hb5:Below w2.heap.size w2 (wr.alloc (Obj.cells #[.int .i64 (V.ix p.deps k).a,.int .i64 (V.ix p.deps k).b] 100)):=hbw.trans ((eE wr _).mono hbw.size)
      refine (nE w2.heap.size w2.heap.size _ _ _ hI5 ?hq2 hb5.size).mono ?_
      case hq2=>
       have hl:=Fq hP k hk
       rw [hstr,V.bA_size,Lib.byteCells_length]
       rw [show (V.dT (V.ix p.deps k)).length=3 from rfl]
       omega
      rintro e w6 ⟨rfl,hB6,hbl6,_⟩
      rw [hstr,qR,←Lib.byteCells_append] at hB6
      clear hstr
      go_wp2
      go_roundw
      case rel=>
       refine ⟨k+1,rfl,by omega,.inr ?_,hb5.trans hbl6⟩
       rw [Cn V.dT p.deps k hlt,←List.append_assoc]
       exact hB6
      case measure=>simp only [intOf];omega
     ·have hk':k=p.deps.length:=by omega
      subst hk'
      rw [List.take_length] at hI
      clear row2
      go_wp2_with (go_at_call 55;refine (Tryz.Builder_String_any_k w2.heap.size w2.heap.size _ _ hI hbw.size).mono ?_)
      rintro e w7 ⟨rfl,_,hb7,_⟩
      go_wp2
      go_ret
      refine ⟨?_,(hb0.trans (hbw.mono (Nat.le_of_lt hsz2))).trans (hb7.mono (Nat.le_of_lt hsz2))⟩
      show Ending.returned (Value.string (V.bA _))=_
      rw [V.textM,if_pos hP,List.append_assoc]
 ·have hd:decide (V.PkOk p)=false:=decide_eq_false hP
  rw [hd]
  go_wp2
  go_ret
  refine ⟨?_,hb0⟩
  rw [V.textM,if_neg hP]
  rfl
namespace V
variable {W:Wld}
theorem Jm {w w':World}{own:Own}{cx:Cx}{sig:Sig}{vals:List Value}{d:D}{v:Value}(hw:WOk w own cx own w)(hlow:∀ g i,own g=some i→i.leaf.1<sig.ps.length)(hb:Below w.heap.size w w')
  (hrs:sig.rs=[.v false [.s]])(hbx:boxPs sig.ps 0=[])(hio:AP sig=none)(hs:Scal d v):∃ u own',Ending.returned v= .returned u∧WOk w own cx own' w'∧lN w' cx own' sig [[d]] vals u:=by
 refine ⟨v,fun _=>none,rfl,⟨⟨hb.os,hb.tape,hb.output,hb.size,fun g hg _=>hb.block g hg,fun g o hg _=>by simp only [World.cell?,hb.block g hg],fun g cur T h=>⟨cur,by rw [hb.block g (oG h)];exact h,rfl⟩⟩,fun g i h=>(by cases h),hw.n,hw.s1,hw.s2,fun g o _ hc=>?_,fun g g' i j h=>(by cases h)⟩,?_⟩
 ·obtain ⟨i,b,h1,_⟩:=hc
  cases h1
 ·unfold lN
  rw [hio]
  have c1:Cell1 v:=by cases hs<;>exact ⟨fun c h=>(by cases h),fun c h=>(by cases h)⟩
  refine ⟨by rw [hrs,hbx];rfl,[v],by rw [hrs];rfl,rfl,fun k p hp=>?_,fun i b hb=>by rw [hbx] at hb;simp at hb⟩
  rw [hrs] at hp
  cases k with
  | succ k=>simp at hp
  | zero=>
   have hp:PSh.v false [.s]=p:=by simpa using hp
   subst hp
   refine ⟨[v],rfl,fun _=>rfl,rfl,rfl,fun i c dd u hc hd hv=>?_⟩
   cases i with
   | succ i=>simp at hc
   | zero=>
    simp only [List.getElem?_cons_zero,Option.some.injEq] at hc hv
    subst hc;subst hv
    have hd:some d=some dd:=hd
    simp only [Option.some.injEq] at hd
    subst hd
    exact ⟨c1,hs⟩
theorem mX (p:Pk)(hs:SmP p):FunOk PP W mP iE [ePk p] [sT (textM p)]:=by
 refine ⟨⟨Tryz.f16,Tryz.func16,by kernel_rfl,by kernel_rfl⟩,fun w own cx vals hP hw hlow hvl hil hinv=>?_⟩
 match vals,hvl with
 | [v0],_=>
  obtain ⟨vs,e0,_,l0,l1,a0⟩:=hinv (0,.v true [.s,.s,.b,.b]) (List.mem_cons_self ..)
  have l1:vs.length=4:=l1
  match vs,l1 with
  | [u0,u1,u2,u3],_=>
   have e0:v0= .agg #[u0,u1,u2,u3]:=e0
   obtain ⟨_,h0⟩:=a0 0 .s (.int .i64 p.name) u0 rfl rfl rfl
   obtain ⟨_,h1⟩:=a0 1 .s (.int .i64 p.ver) u1 rfl rfl rfl
   obtain ⟨_,h2⟩:=a0 2 .b (.sl (p.files.map eP2)) u2 rfl rfl rfl
   obtain ⟨_,h3⟩:=a0 3 .b (.sl (p.deps.map eP2)) u3 rfl rfl rfl
   have h0:Scal (.int .i64 p.name) u0:=h0
   have h1:Scal (.int .i64 p.ver) u1:=h1
   cases h0
   cases h1
   subst e0
   refine (Ds p hs u2 u3 w (MB h2) (MB h3)).mono ?_
   rintro e w' ⟨rfl,hb⟩
   exact Jm hw (fun g i h=>(hlow g i h).2) hb rfl rfl rfl (.str _)
end V
end Go.Proofs.YtmgpamcpdblckaaGreatDoor

/-
Plain proofs: texts of packages and their sums.
-/
namespace Go.Proofs.YtmgpamcpdblckaaGreatDoor
namespace V
section
open Classical
variable {W:Wld}

theorem Ig {a b:ByteArray}(h:a=b):([.str a]:List D)=[.str b]:=by rw [h]
theorem Hm {a b:ByteArray}(h:a=b):([[.str a]]:List (List D))=[[.str b]]:=by rw [h]
theorem MD (n:Int)(h:0≤n∧n≤255):IntKind.u8.wrap n=n:=by
 show (if (false&&decide (n % (2^8:Int)≥(2^7:Int)))=true then n % (2^8:Int) - (2^8:Int) else n % (2^8:Int))=n
 simp only [Bool.false_and]
 rw [if_neg (by simp)]
 omega
theorem Fs (n:Int)(h:0≤n∧n≤9):FunOk PP W jC eQ [i64 n] [sT [u8 (48+n)]]:=by
 refine Jg (aZ ?_)
 (repeat' first
  | (refine run_ite rfl (fun h=>?_) (fun h=>?_)<;>(try simp (disch:=omega) only [zB,eqDs,bM,Nat.reduceAdd,aA] at h)<;>(try (exfalso;omega)))
  | refine aI rfl ?_
  | refine aJ rfl ?_
  | refine aB rfl ?_ ?_
  | (refine aG rfl ?_;first | refine rb ?_ | refine ri ?_ | refine bX ?_ ?_ | refine cH ?_)
  | refine aD rfl ?_)
 rw [aA _ (by omega),MD _ (by omega)]
 rfl
theorem Co (n v:Int)(hn:1≤n∧n≤4)(hv:1≤v∧v≤5):FunOk PP W oW gX [i64 n,i64 v] [sT (nmT n v)]:=by
 refine HR (aZ ?_)
 (repeat' first
  | (refine run_ite rfl (fun h=>?_) (fun h=>?_)<;>(try simp (disch:=omega) only [zB,eqDs,bM,Nat.reduceAdd,aA] at h)<;>(try (exfalso;omega)))
  | refine aI rfl ?_
  | refine aJ rfl ?_
  | refine aH rfl (Fs v (by omega)) rfl ?_
  | refine aB rfl ?_ ?_
  | (refine aG rfl ?_;first | refine rb ?_ | refine ri ?_ | refine bX ?_ ?_ | refine cH ?_)
  | refine aD rfl ?_)
 ·rw [bA_size]
  show 1+1≤lim
  decide
 ·rw [aA (97+n) (by omega),aA _ (by omega),MD _ (by omega)]
  show [D.str (bA [u8 (97+n - 1)]++bA [u8 (48+v)])]=_
  rw [bA_app]
  rfl
theorem Dt (l:List UInt8)(i:Int)(hi:i.toNat<l.length):Ol (bA l) i=((ix l i).toNat:Int):=by
 unfold Ol
 have h:i.toNat<(bA l).size:=by rw [bA_size];exact hi
 rw [getElem?_pos (bA l) i.toNat h]
 have e1:ix l i=l[i.toNat]:=by
  simp [ix,hi]
  rfl
 rw [e1]
 rfl
abbrev eB8 (b:UInt8):List D:=[.int .u8 b.toNat]
theorem Jn (l:List UInt8):pO (bA l)=l.map eB8:=rfl
theorem RB (l:List UInt8)(i:Int)(hi:i.toNat<l.length):cI (l.map eB8) i 0=((ix l i).toNat:Int):=by
 simp [cI,gF,hi,pZ]
theorem Ft (l:List UInt8)(i:Int)(h0:0≤i)(hi:i<l.length)(x:Int)(hx:x=((ix l i).toNat:Int)):
  (IntKind.i64.wrap (IntKind.i64.wrap (IntKind.i64.wrap (31*sZ (l.take i.toNat))+IntKind.i64.wrap x)+1)).tmod 9973=sZ (l.take (i+1).toNat):=by
 have hr:=Hf (l.take i.toNat)
 have hb:(ix l i).toNat<256:=(ix l i).toNat_lt
 rw [aA x (by omega),aA (31*_) (by omega),aA (_+x) (by omega),aA _ (by omega),iR l h0 hi]
 unfold sZ at hr ⊢
 rw [List.foldl_append]
 simp only [List.foldl_cons,List.foldl_nil]
 rw [hx]
 rfl
theorem wI (l:List UInt8)(hl:l.length≤1000000):FunOk PP W rH jM [sT l] [i64 (sZ l)]:=by
 refine Ji (aZ ?_)
 refine aX rfl (fun i:Int=>0≤i∧i≤l.length) (fun i=>[(4,.val (i64 i)),(3,.val (i64 (sZ (l.take i.toNat)))),(0,.val (sT l))]) (fun i=>(l.length - i).toNat) 0 ⟨by omega,by omega⟩ ⟨rfl,rfl,rfl,trivial⟩ rfl ?_
 rintro i e ⟨h0,hN⟩
 have hsz:=bA_size l
 (repeat' first
  | (refine run_ite rfl (fun h=>?_) (fun h=>?_)<;>(try simp (disch:=omega) only [zB,eqDs,bM,Nat.reduceAdd,aA] at h)<;>(try (exfalso;omega)))
  | refine aI rfl ?_
  | refine aJ rfl ?_
  | (refine aR rfl (Exists.intro (i+1) ⟨by omega,⟨by omega,by omega⟩,aW (aA _ (by omega)),aW (Ft l i h0 (by omega) _ (Dt l i (by omega))),rfl,trivial⟩))
  | refine aB rfl ?_ ?_
  | (refine aG rfl ?_;first | refine rb ?_ | refine ri ?_ | refine bX ?_ ?_ | refine cH ?_)
  | refine aD rfl ?_)
 rw [List.take_of_length_le (by omega)]
theorem Jo (l:List UInt8)(hl:l.length≤1000000):FunOk PP W vV lH [sT l] [i64 (sZ l)]:=by
 refine Jc (aZ ?_)
 refine aB rfl (by rw [bA_size];unfold lim;omega) ?_
 rw [Jn]
 refine aX rfl (fun i:Int=>0≤i∧i≤l.length) (fun i=>[(9,.val (i64 i)),(3,.val (i64 (sZ (l.take i.toNat)))),(7,.val [.sl (l.map eB8)]),(8,.val (i64 (l.map eB8).length))]) (fun i=>(l.length - i).toNat) 0 ⟨by omega,by omega⟩ ⟨rfl,rfl,rfl,rfl,trivial⟩ rfl ?_
 rintro i e ⟨h0,hN⟩
 (repeat' first
  | (refine run_ite rfl (fun h=>?_) (fun h=>?_)<;>(try simp (disch:=omega) only [zB,eqDs,bM,Nat.reduceAdd,aA] at h)<;>(try (exfalso;omega)))
  | refine aI rfl ?_
  | refine aJ rfl ?_
  | (refine aR rfl (Exists.intro (i+1) ⟨by omega,⟨by omega,by omega⟩,aW (aA _ (by omega)),aW (Ft l i h0 (by omega) _ (RB l i (by omega))),rfl,rfl,trivial⟩))
  | refine aB rfl ?_ ?_
  | (refine aG rfl ?_;first | refine rb ?_ | refine ri ?_ | refine bX ?_ ?_ | refine cH ?_)
  | refine aD rfl ?_)
 rw [List.take_of_length_le (by omega)]
theorem Cp (p:Pk)(hs:SmP p):FunOk PP W oT gV [ePk p] [Gn (eO p)]:=by
 refine HF (aZ ?_)
 have hl:=lI p
 (repeat' first
  | (refine run_ite rfl (fun h=>?_) (fun h=>?_)<;>(try simp (disch:=omega) only [zB,eqDs,bM,Nat.reduceAdd,aA] at h)<;>(try (exfalso;omega)))
  | refine aI rfl ?_
  | refine aJ rfl ?_
  | refine aH rfl (mX p hs) rfl ?_
  | refine aH rfl (Jo (textM p) (by omega)) rfl ?_
  | refine aB rfl ?_ ?_
  | (refine aG rfl ?_;first | refine rb ?_ | refine ri ?_ | refine bX ?_ ?_ | refine cH ?_)
  | refine aD rfl ?_)
 rfl

/-! The specification's text of a package. -/
theorem Nx (n v:Int):(nmT n v).length=2:=rfl
theorem Rn (b:UInt8):(⟨#[b]⟩:ByteArray).size=1:=rfl
theorem rK {α:Type}(f:α→List UInt8)(n:Nat)(hf:∀ x,(f x).length=n):∀ xs:List α,(xs.flatMap f).length=n*xs.length
 | []=>by simp
 | x::r=>by
  have:=rK f n hf r
  simp [hf,this,Nat.mul_add,Nat.add_comm]
theorem Oo {α:Type}[Inhabited α](f:α→List UInt8)(xs:List α){i:Int}(h0:0≤i)(h1:i<xs.length):(xs.take (i+1).toNat).flatMap f=(xs.take i.toNat).flatMap f++f (ix xs i):=by
 rw [iR xs h0 h1]
 simp
theorem Ny (acc:List UInt8)(f:P2):bA acc++⟨#[32]⟩++bA [u8 (48+f.a)]++⟨#[58]⟩++bA [u8 (48+f.b)]=bA (acc++fT f):=by
 show bA acc++bA [32]++bA [u8 (48+f.a)]++bA [58]++bA [u8 (48+f.b)]=_
 simp only [bA_app,List.append_assoc]
 rfl
theorem Nz (acc:List UInt8)(f:P2):bA acc++⟨#[32]⟩++bA (nmT f.a f.b)=bA (acc++dT f):=by
 show bA acc++bA [32]++bA (nmT f.a f.b)=_
 simp only [bA_app,List.append_assoc]
 rfl
theorem qS (p:Pk)(hs:SmP p):FunOk PP W kF eD [ePk p] [sT (textM p)]:=by
 refine Ff (aZ ?_)
 (repeat' first
  | (refine run_ite rfl (fun h=>?_) (fun h=>?_)<;>(try simp (disch:=omega) only [zB,eqDs,bM,Nat.reduceAdd,aA] at h)<;>(try (exfalso;omega)))
  | refine aI rfl ?_
  | refine aJ rfl ?_
  | refine aH rfl (Cf p hs) rfl ?_
  | refine aB rfl ?_ ?_
  | (refine aG rfl ?_;first | refine rb ?_ | refine ri ?_ | refine bX ?_ ?_ | refine cH ?_)
  | refine aD rfl ?_)
 ·rw [textM,if_neg h]
  rfl
 have h1:(p.files.length:Int)≤2:=h.2.2.1.2
 have h2:(p.deps.length:Int)≤2:=h.2.2.2.2
 have hT:textM p=nmT p.name p.ver++p.files.flatMap fT++p.deps.flatMap dT:=by rw [textM,if_pos h]
 rw [hT]
 have hF:=h.2.2.1.1
 have hD:=h.2.2.2.1
 have hn:(nmT p.name p.ver).length=2:=rfl
 have hfl:=rK fT 4 (fun _=>rfl) p.files
 (repeat' first
  | (refine run_ite rfl (fun h=>?_) (fun h=>?_)<;>(try simp (disch:=omega) only [zB,eqDs,bM,Nat.reduceAdd,aA] at h)<;>(try (exfalso;omega)))
  | refine aI rfl ?_
  | refine aJ rfl ?_
  | refine aH rfl (Co p.name p.ver h.1 h.2.1) rfl ?_
  | refine aB rfl ?_ ?_
  | (refine aG rfl ?_;first | refine rb ?_ | refine ri ?_ | refine bX ?_ ?_ | refine cH ?_)
  | refine aD rfl ?_)
 refine aX rfl (fun i:Int=>0≤i∧i≤p.files.length) (fun i=>[(4,.val (i64 i)),(3,.val (sT (nmT p.name p.ver++(p.files.take i.toNat).flatMap fT))),(1,.val (ePk p))]) (fun i=>(p.files.length - i).toNat) 0 ⟨by omega,by omega⟩ ⟨rfl,rfl,rfl,trivial⟩ rfl ?_
 rintro i e ⟨h0,hN⟩
 by_cases hi:i<p.files.length
 ·obtain ⟨fa,fb,_⟩:=hF i h0 hi
  have hl:(nmT p.name p.ver++(p.files.take i.toNat).flatMap fT).length≤10:=by
   rw [List.length_append,rK fT 4 (fun _=>rfl),List.length_take]
   omega
  (repeat' first
  | (refine run_ite rfl (fun h=>?_) (fun h=>?_)<;>(try simp (disch:=omega) only [zB,eqDs,bM,Nat.reduceAdd,aA] at h)<;>(try (exfalso;omega)))
  | refine aI rfl ?_
  | refine aJ rfl ?_
  | refine aH rfl (Fs _ (by simp only [zB,eqDs,bM,Nat.reduceAdd];omega)) rfl ?_
  | (refine aB rfl (by simp only [ByteArray.size_append,bA_size,Rn,List.length_cons,List.length_nil];unfold lim;omega) ?_)
  | (refine aR rfl (Exists.intro (i+1) ⟨by omega,⟨by omega,by omega⟩,aW (aA _ (by omega)),?_,rfl,trivial⟩))
  | refine aB rfl ?_ ?_
  | (refine aG rfl ?_;first | refine rb ?_ | refine ri ?_ | refine bX ?_ ?_ | refine cH ?_)
  | refine aD rfl ?_)
  have hx:(⟨cI (p.files.map eP2) i 0,cI (p.files.map eP2) i 1⟩:P2)=ix p.files i:=by rw [DV,DW]
  exact Ig ((Ny (nmT p.name p.ver++(p.files.take i.toNat).flatMap fT) ⟨cI (p.files.map eP2) i 0,cI (p.files.map eP2) i 1⟩).trans (by rw [hx,Oo fT p.files h0 hi,List.append_assoc]))
 ·have ht:p.files.take i.toNat=p.files:=List.take_of_length_le (by omega)
  rw [ht]
  (repeat' first
  | (refine run_ite rfl (fun h=>?_) (fun h=>?_)<;>(try simp (disch:=omega) only [zB,eqDs,bM,Nat.reduceAdd,aA] at h)<;>(try (exfalso;omega)))
  | refine aI rfl ?_
  | refine aJ rfl ?_
  | refine aB rfl ?_ ?_
  | (refine aG rfl ?_;first | refine rb ?_ | refine ri ?_ | refine bX ?_ ?_ | refine cH ?_)
  | refine aD rfl ?_)
  refine aX rfl (fun i:Int=>0≤i∧i≤p.deps.length) (fun i=>[(5,.val (i64 i)),(3,.val (sT (nmT p.name p.ver++p.files.flatMap fT++(p.deps.take i.toNat).flatMap dT))),(1,.val (ePk p))]) (fun i=>(p.deps.length - i).toNat) 0 ⟨by omega,by omega⟩ ⟨rfl,Ig (by simp),rfl,trivial⟩ rfl ?_
  rintro k e ⟨k0,kN⟩
  by_cases hk:k<p.deps.length
  ·obtain ⟨fa,_,fb,_⟩:=hD k k0 hk
   have hl:(nmT p.name p.ver++p.files.flatMap fT++(p.deps.take k.toNat).flatMap dT).length≤16:=by
    rw [List.length_append,List.length_append,rK dT 3 (fun _=>rfl),List.length_take,hfl]
    omega
   have hn2:(nmT (ix p.deps k).a (ix p.deps k).b).length=2:=rfl
   (repeat' first
  | (refine run_ite rfl (fun h=>?_) (fun h=>?_)<;>(try simp (disch:=omega) only [zB,eqDs,bM,Nat.reduceAdd,aA] at h)<;>(try (exfalso;omega)))
  | refine aI rfl ?_
  | refine aJ rfl ?_
  | refine aH rfl (Co _ _ (by simp only [zB,eqDs,bM,Nat.reduceAdd];exact fa) (by simp only [zB,eqDs,bM,Nat.reduceAdd];exact fb)) rfl ?_
  | (refine aB rfl (by simp only [ByteArray.size_append,bA_size,Rn,Nx];unfold lim;omega) ?_)
  | (refine aR rfl (Exists.intro (k+1) ⟨by omega,⟨by omega,by omega⟩,aW (aA _ (by omega)),?_,rfl,trivial⟩))
  | refine aB rfl ?_ ?_
  | (refine aG rfl ?_;first | refine rb ?_ | refine ri ?_ | refine bX ?_ ?_ | refine cH ?_)
  | refine aD rfl ?_)
   have hx:(⟨cI (p.deps.map eP2) k 0,cI (p.deps.map eP2) k 1⟩:P2)=ix p.deps k:=by rw [DV,DW]
   exact Ig ((Nz (nmT p.name p.ver++p.files.flatMap fT++(p.deps.take k.toNat).flatMap dT) ⟨cI (p.deps.map eP2) k 0,cI (p.deps.map eP2) k 1⟩).trans (by rw [hx,Oo dT p.deps k0 hk];simp only [List.append_assoc]))
  ·have ht:p.deps.take k.toNat=p.deps:=List.take_of_length_le (by omega)
   rw [ht]
   (repeat' first
  | (refine run_ite rfl (fun h=>?_) (fun h=>?_)<;>(try simp (disch:=omega) only [zB,eqDs,bM,Nat.reduceAdd,aA] at h)<;>(try (exfalso;omega)))
  | refine aI rfl ?_
  | refine aJ rfl ?_
  | refine aB rfl ?_ ?_
  | (refine aG rfl ?_;first | refine rb ?_ | refine ri ?_ | refine bX ?_ ?_ | refine cH ?_)
  | refine aD rfl ?_)
   rfl
end
section
open Classical
variable {W:Wld}

theorem Du {p q:Mt}(h1:p.name=q.name)(h2:p.ver=q.ver)(h3:p.sum=q.sum):p=q:=by cases p;cases q;simp_all
theorem OA (a b:List Mt)(ha:a.length≤lim):FunOk PP W kO dL [Em a,Em b] [bo (decide (a=b))]:=by
 refine yP (aZ ?_)
 unfold lim at ha
 (repeat' first
  | (refine run_ite rfl (fun h=>?_) (fun h=>?_)<;>(try simp (disch:=omega) only [zB,eqDs,bM,Nat.reduceAdd,aA] at h)<;>(try (exfalso;omega)))
  | refine aI rfl ?_
  | refine aJ rfl ?_
  | refine aB rfl ?_ ?_
  | (refine aG rfl ?_;first | refine rb ?_ | refine ri ?_ | refine bX ?_ ?_ | refine cH ?_)
  | refine aD rfl ?_)
 ·exact fD (fun h'=>by simp_all)
 have hn:a.length=b.length:=by omega
 clear h
 refine aX rfl (fun i:Int=>0≤i∧i≤a.length∧uF i (fun j=>ix a j=ix b j)) (fun i=>[(13,.val (i64 i)),(0,.val (Em a)),(1,.val (Em b)),(12,.val (i64 (a.map Gn).length))]) (fun i=>(a.length - i).toNat) 0 ⟨by omega,by omega,cT _⟩ ⟨rfl,rfl,rfl,rfl,trivial⟩ rfl ?_
 rintro i e ⟨h0,hN,hP⟩
 (repeat' first
  | (refine run_ite rfl (fun h=>?_) (fun h=>?_)<;>(try simp (disch:=omega) only [zB,eqDs,bM,Nat.reduceAdd,aA] at h)<;>(try (exfalso;omega)))
  | refine aI rfl ?_
  | refine aJ rfl ?_
  | (refine aR rfl (Exists.intro (i+1) ⟨by omega,⟨by omega,by omega,cU hP ?_⟩,aW (aA _ (by omega)),rfl,rfl,rfl,trivial⟩))
  | refine aB rfl ?_ ?_
  | (refine aG rfl ?_;first | refine rb ?_ | refine ri ?_ | refine bX ?_ ?_ | refine cH ?_)
  | refine aD rfl ?_)
 ·exact fD (fun h'=>by subst h';exact h rfl rfl rfl)
 ·exact Du h.1 h.2.1 h.2.2
 ·exact tD (DZ hn (gI hP (by omega)))
theorem ME (l:List Mt)(m:Mt)(hl:l.length≤lim):FunOk PP W kL dK [Em l,Gn m] [i64 (oZ (fun y=>y=m) l l.length 0)]:=by
 refine yN (aZ ?_)
 unfold lim at hl
 refine aX rfl (fun i:Int=>0≤i∧i≤l.length∧oZ (fun y=>y=m) l l.length 0=oZ (fun y=>y=m) l (l.length - i).toNat i) (fun i=>[(8,.val (i64 i)),(0,.val (Em l)),(3,.val (Gn m)),(7,.val (i64 (l.map Gn).length))]) (fun i=>(l.length - i).toNat) 0 ⟨by omega,by omega,by simp⟩ ⟨rfl,rfl,rfl,rfl,trivial⟩ rfl ?_
 rintro i e ⟨h0,hN,hP⟩
 (repeat' first
  | (refine run_ite rfl (fun h=>?_) (fun h=>?_)<;>(try simp (disch:=omega) only [zB,eqDs,bM,Nat.reduceAdd,aA] at h)<;>(try (exfalso;omega)))
  | refine aI rfl ?_
  | refine aJ rfl ?_
  | (refine aR rfl (Exists.intro (i+1) ⟨by omega,⟨by omega,by omega,?_⟩,aW (aA _ (by omega)),rfl,rfl,rfl,trivial⟩))
  | refine aB rfl ?_ ?_
  | (refine aG rfl ?_;first | refine rb ?_ | refine ri ?_ | refine bX ?_ ?_ | refine cH ?_)
  | refine aD rfl ?_)
 ·rw [hP,show ((l.length:Int) - i).toNat=((l.length:Int) - (i+1)).toNat+1 by omega,oZ,if_pos (Du h.1.symm h.2.1.symm h.2.2.symm)]
 ·rw [hP,show ((l.length:Int) - i).toNat=((l.length:Int) - (i+1)).toNat+1 by omega,oZ,if_neg (fun h'=>by subst h';exact h rfl rfl rfl)]
 ·rw [hP,show ((l.length:Int) - i).toNat=0 by omega,oZ]
theorem Fu (l:List Mt)(m:Mt)(hl:l.length≤lim):FunOk PP W eJ bU [Em l,Gn m] [bo (decide (m∈l))]:=by
 refine sX (aZ ?_)
 (repeat' first
  | (refine run_ite rfl (fun h=>?_) (fun h=>?_)<;>(try simp (disch:=omega) only [zB,eqDs,bM,Nat.reduceAdd,aA] at h)<;>(try (exfalso;omega)))
  | refine aI rfl ?_
  | refine aJ rfl ?_
  | refine aH rfl (ME l m hl) rfl ?_
  | refine aB rfl ?_ ?_
  | (refine aG rfl ?_;first | refine rb ?_ | refine ri ?_ | refine bX ?_ ?_ | refine cH ?_)
  | refine aD rfl ?_)
 simp only [SD]
 congr 1
 rw [eq_iff_iff,Lu]
 exact ⟨fun ⟨y,h1,h2⟩=>h2▸h1,fun h=>⟨m,h,rfl⟩⟩

theorem yD (x:Ix)(hl:x.ms.length≤lim):FunOk PP W mR fN [BZ x] [bo (decide (Hi x))]:=by
 refine FY (aZ ?_)
 unfold lim at hl
 (repeat' first
  | (refine run_ite rfl (fun h=>?_) (fun h=>?_)<;>(try simp (disch:=omega) only [zB,eqDs,bM,Nat.reduceAdd,aA] at h)<;>(try (exfalso;omega)))
  | refine aI rfl ?_
  | refine aJ rfl ?_
  | refine aH rfl (oY ..) rfl ?_
  | refine aB rfl ?_ ?_
  | (refine aG rfl ?_;first | refine rb ?_ | refine ri ?_ | refine bX ?_ ?_ | refine cH ?_)
  | refine aD rfl ?_)
 ·exact fD (p:=Hi x) (fun h'=>h h'.1)
 ·exact fD (p:=Hi x) (fun h'=>h h'.2.1)
 ·exact fD (p:=Hi x) (fun h'=>by have:=h'.2.2.1;omega)
 rename_i q1 q2
 refine aX rfl (fun i:Int=>0≤i∧i≤x.ms.length∧uF i (Hh x.ms)) (fun i=>[(3,.val (i64 i)),(1,.val (BZ x))]) (fun i=>(x.ms.length - i).toNat) 0 ⟨by omega,by omega,cT _⟩ ⟨rfl,rfl,trivial⟩ rfl ?_
 rintro i e ⟨h0,hN,hP⟩
 (repeat' first
  | (refine run_ite rfl (fun h=>?_) (fun h=>?_)<;>(try simp (disch:=omega) only [zB,eqDs,bM,Nat.reduceAdd,aA] at h)<;>(try (exfalso;omega)))
  | refine aI rfl ?_
  | refine aJ rfl ?_
  | refine aH rfl (oY ..) rfl ?_
  | refine aH rfl (rI ..) rfl ?_
  | (refine aR rfl (Exists.intro (i+1) ⟨by omega,⟨by omega,by omega,cU hP (by unfold Hh;omega)⟩,aW (aA _ (by omega)),rfl,trivial⟩))
  | refine aB rfl ?_ ?_
  | (refine aG rfl ?_;first | refine rb ?_ | refine ri ?_ | refine bX ?_ ?_ | refine cH ?_)
  | refine aD rfl ?_)
 all_goals first
  | exact tD (p:=Hi x) ⟨q1,q2,by omega,gI hP (by omega)⟩
  | exact fD (p:=Hi x) (fun h'=>by have:=h'.2.2.2 i (by omega) (by omega);unfold Hh at this;omega)
theorem yE (x:Ix)(hl:x.ms.length≤lim):FunOk PP W mS fO [BZ x] [bo (decide (Hi x))]:=by
 refine Fd (aZ ?_)
 unfold lim at hl
 refine aX rfl (fun i:Int=>0≤i∧i≤x.ms.length∧uF i (Hh x.ms)) (fun i=>[(8,.val (i64 i)),(1,.val (BZ x)),(6,.val (Em x.ms)),(7,.val (i64 (x.ms.map Gn).length))]) (fun i=>(x.ms.length - i).toNat) 0 ⟨by omega,by omega,cT _⟩ ⟨rfl,rfl,rfl,rfl,trivial⟩ rfl ?_
 rintro i e ⟨h0,hN,hP⟩
 (repeat' first
  | (refine run_ite rfl (fun h=>?_) (fun h=>?_)<;>(try simp (disch:=omega) only [zB,eqDs,bM,Nat.reduceAdd,aA] at h)<;>(try (exfalso;omega)))
  | refine aI rfl ?_
  | refine aJ rfl ?_
  | refine aH rfl (Ce ..) rfl ?_
  | refine aH rfl (wD ..) rfl ?_
  | refine aH rfl (BL ..) rfl ?_
  | (refine aR rfl (Exists.intro (i+1) ⟨by omega,⟨by omega,by omega,cU hP (by unfold Hh;omega)⟩,aW (aA _ (by omega)),rfl,rfl,rfl,trivial⟩))
  | refine aB rfl ?_ ?_
  | (refine aG rfl ?_;first | refine rb ?_ | refine ri ?_ | refine bX ?_ ?_ | refine cH ?_)
  | refine aD rfl ?_)
 all_goals first
  | exact fD (p:=Hi x) (fun h'=>by have:=h'.2.2.2 i (by omega) (by omega);unfold Hh at this;omega)
  | (refine dI (p:=Hi x) ?_;simp only [List.length_map,decide_eq_true_eq];exact ⟨fun h'=>⟨by assumption,by assumption,h',gI hP (by omega)⟩,fun h'=>h'.2.2.1⟩)
  | exact fD (p:=Hi x) (fun h'=>absurd h'.2.1 (by assumption))
  | exact fD (p:=Hi x) (fun h'=>absurd h'.1 (by assumption))
theorem Jp (x:Ix)(hl:x.ms.length≤lim):FunOk PP W lW dX [BZ x,BZ Lz] [bo (decide (x.num=0∧x.till=0∧x.ms=[]))]:=by
 refine BF (aZ ?_)
 (repeat' first
  | (refine run_ite rfl (fun h=>?_) (fun h=>?_)<;>(try simp (disch:=omega) only [zB,eqDs,bM,Nat.reduceAdd,aA] at h)<;>(try (exfalso;omega)))
  | refine aI rfl ?_
  | refine aJ rfl ?_
  | refine aH rfl (OA x.ms [] hl) rfl ?_
  | refine aB rfl ?_ ?_
  | (refine aG rfl ?_;first | refine rb ?_ | refine ri ?_ | refine bX ?_ ?_ | refine cH ?_)
  | refine aD rfl ?_)
 all_goals simp_all [Lz]
theorem qT (t:Tu)(hk:t.r.keys.length≤lim)(hl:t.x.ms.length≤lim):FunOk PP W mN fJ [Hg t] [bo (decide (BP t))]:=by
 refine FN (aZ ?_)
 (repeat' first
  | (refine run_ite rfl (fun h=>?_) (fun h=>?_)<;>(try simp (disch:=omega) only [zB,eqDs,bM,Nat.reduceAdd,aA] at h)<;>(try (exfalso;omega)))
  | refine aI rfl ?_
  | refine aJ rfl ?_
  | refine aH rfl (Hd t.r hk) rfl ?_
  | refine aH rfl (yD t.x hl) rfl ?_
  | refine aB rfl ?_ ?_
  | (refine aG rfl ?_;first | refine rb ?_ | refine ri ?_ | refine bX ?_ ?_ | refine cH ?_)
  | refine aD rfl ?_)
 ·exact fD (p:=BP t) (fun h'=>h h'.1)
 ·refine dI (p:=BP t) ?_
  unfold BP
  rw [if_pos h,decide_eq_true_eq]
  exact ⟨fun h'=>⟨by assumption,h'⟩,fun h'=>h'.2⟩
 ·rename_i q1 q2 q3
  refine dI (p:=BP t) ?_
  unfold BP
  rw [if_neg (by rw [q2];simp)]
  simp only [List.length_map,beq_iff_eq]
  exact ⟨fun h'=>⟨q1,q3,h,List.length_eq_zero_iff.1 (by omega)⟩,fun h'=>by rw [h'.2.2.2];rfl⟩
 ·rename_i q1 q2 q3
  exact fD (p:=BP t) (fun h'=>by unfold BP at h';rw [if_neg (by rw [q2];simp)] at h';exact h h'.2.2.1)
 ·rename_i q1 q2
  exact fD (p:=BP t) (fun h'=>by unfold BP at h';rw [if_neg (by rw [q2];simp)] at h';exact h h'.2.1)
theorem Fv (t:Tu)(hk:t.r.keys.length≤lim)(hl:t.x.ms.length≤lim):FunOk PP W qF iH [Hg t] [bo (decide (BP t))]:=by
 refine FW (aZ ?_)
 (repeat' first
  | (refine run_ite rfl (fun h=>?_) (fun h=>?_)<;>(try simp (disch:=omega) only [zB,eqDs,bM,Nat.reduceAdd,aA] at h)<;>(try (exfalso;omega)))
  | refine aI rfl ?_
  | refine aJ rfl ?_
  | refine aH rfl (He t.r hk) rfl ?_
  | refine aH rfl (yE t.x hl) rfl ?_
  | refine aH rfl (Jp t.x hl) rfl ?_
  | refine aB rfl ?_ ?_
  | (refine aG rfl ?_;first | refine rb ?_ | refine ri ?_ | refine bX ?_ ?_ | refine cH ?_)
  | refine aD rfl ?_)
 ·exact fD (p:=BP t) (fun h'=>h h'.1)
 ·refine dI (p:=BP t) ?_
  unfold BP
  rw [if_pos h,decide_eq_true_eq]
  exact ⟨fun h'=>⟨by assumption,h'⟩,fun h'=>h'.2⟩
 ·refine dI (p:=BP t) ?_
  unfold BP
  rw [if_neg (by rw [h];simp),decide_eq_true_eq]
  exact ⟨fun h'=>⟨by assumption,h'⟩,fun h'=>h'.2⟩

/-! What lacks, and what is kept. -/
noncomputable def bY (t:Tu)(s:List Pk):List Pk:=if t.has=true then s.filter (fun p=>decide (eO p∈t.x.ms)) else []
noncomputable def eF (t:Tu)(s:List Pk):List Pk:=if BP t∧nX s then bY t s else []
theorem wJ {α:Type}[Inhabited α](P:α→Bool)(l:List α){i:Int}(h0:0≤i)(h1:i<l.length):(l.take (i+1).toNat).filter P=(l.take i.toNat).filter P++if P (ix l i)=true then [ix l i] else []:=by
 rw [iR l h0 h1,List.filter_append]
 congr 1
 by_cases h:P (ix l i)=true<;>simp [h]
end
section
open Classical
variable {W:Wld}

def QB (n v:Int)(p:Pk):Prop:=p.name=n∧p.ver=v
theorem OB (ps:List Pk)(hl:ps.length≤lim)(n v:Int):FunOk PP W kC eB [bT ps,i64 n,i64 v] [i64 (oZ (QB n v) ps ps.length 0)]:=by
 refine xT (aZ ?_)
 unfold lim at hl
 refine aX rfl (fun i:Int=>0≤i∧i≤ps.length∧oZ (QB n v) ps ps.length 0=oZ (QB n v) ps (ps.length - i).toNat i) (fun i=>[(7,.val (i64 i)),(0,.val (bT ps)),(1,.val (i64 n)),(2,.val (i64 v))]) (fun i=>(ps.length - i).toNat) 0 ⟨by omega,by omega,by simp⟩ ⟨rfl,rfl,rfl,rfl,trivial⟩ rfl ?_
 rintro i e ⟨h0,hN,hP⟩
 have hs:i<ps.length→oZ (QB n v) ps ps.length 0=if QB n v (ix ps i) then i else oZ (QB n v) ps (ps.length - (i+1)).toNat (i+1):=fun h=>by
  rw [hP,show ((ps.length:Int) - i).toNat=((ps.length:Int) - (i+1)).toNat+1 by omega,oZ]
 have hz:¬i<ps.length→oZ (QB n v) ps ps.length 0= -1:=fun h=>by
  rw [hP,show ((ps.length:Int) - i).toNat=0 by omega,oZ]
 (repeat' first
  | (refine run_ite rfl (fun h=>?_) (fun h=>?_)<;>(try simp (disch:=omega) only [zB,eqDs,bM,Nat.reduceAdd,aA] at h)<;>(try (exfalso;omega)))
  | refine aI rfl ?_
  | refine aJ rfl ?_
  | (refine aR rfl (Exists.intro (i+1) ⟨by omega,⟨by omega,by omega,?_⟩,aW (aA _ (by omega)),rfl,rfl,rfl,trivial⟩))
  | refine aB rfl ?_ ?_
  | (refine aG rfl ?_;first | refine rb ?_ | refine ri ?_ | refine bX ?_ ?_ | refine cH ?_)
  | refine aD rfl ?_)
 ·rw [hs (by omega),if_pos ⟨by assumption,h⟩]
 ·rw [hs (by omega),if_neg (fun h'=>h h'.2)]
 ·rw [hs (by omega),if_neg (fun h'=>h h'.1)]
 ·rw [hz (by omega)]
theorem MF {ps:List Pk}(h:nX ps):∀ (n:Nat) (i j:Int),(j - i).toNat=n→0≤i→i<j→j<ps.length→dD (ix ps i) (ix ps j)
 | 0,i,j,hn,_,hij,_=>by omega
 | n+1,i,j,hn,h0,hij,hj=>by
  have hs:=(h j (by omega) hj).2 (by omega)
  by_cases e:i=j - 1
  ·rw [e];exact hs
  ·have:=MF h n i (j - 1) (by omega) h0 (by omega) (by omega)
   unfold dD at *
   omega
/-! Nothing that lacks is kept; what lacks and what is kept are all that is told of. -/
theorem OC {α:Type}[Inhabited α]{R:α→α→Prop}{l:List α}(h:∀ i j:Int,0≤i→i<j→j<l.length→R (ix l i) (ix l j)):l.Pairwise R:=by
 rw [List.pairwise_iff_getElem]
 intro i j hi hj hij
 have:=h i j (by omega) (by omega) (by omega)
 simpa [ix,hi,hj] using this
end
section
open Classical
variable {W:Wld}

theorem OD (b:List Int)(hb:Jk b)(p:Int)(hp:0≤p∧p<800000000):∃ outs,(∃ ks p',outs=[Lc ks,eS b p']∧ks.length≤7∧p≤p'∧p'≤p+10)∧FunOk PP W qK iD [eS b p] outs:=by
 obtain ⟨outs,h1,h2⟩:=dU (Φ:=FunOk PP W) (p:=p_s_l71Keys) (ins:=[eS b p]) (G:=fun outs=>∃ ks p',outs=[Lc ks,eS b p']∧ks.length≤7∧p≤p'∧p'≤p+10) (by
  refine aX rfl (fun x:Int×Int×List Int=>(1≤x.1∧x.1≤7)∧(p≤x.2.1∧x.2.1≤p+x.1)∧(x.2.2.length:Int)≤x.1 - 1) (fun x=>[(4,.val (i64 x.1)),(0,.val (eS b x.2.1)),(3,.val (Lc x.2.2))]) (fun x=>(7 - x.1).toNat) (1,p,[]) ⟨by dsimp only;omega,by dsimp only;omega,by simp⟩ ⟨rfl,rfl,rfl,trivial⟩ rfl ?_
  rintro ⟨n,r,ks⟩ e ⟨g0,g1,g2⟩
  dsimp only at g0 g1 g2 ⊢
  (repeat' first
  | (refine run_ite rfl (fun h=>?_) (fun h=>?_)<;>(try simp (disch:=omega) only [zB,eqDs,bM,Nat.reduceAdd,aA] at h)<;>(try (exfalso;omega)))
  | refine aI rfl ?_
  | refine aJ rfl ?_
  | (refine aV rfl (eM b hb _ _ (by first | omega | (simp only [List.length_map];omega)) (by first | omega | (simp only [List.length_map];omega) | (simp;done))) rfl (fun outs hG=>?_);obtain ⟨v,rfl,hv0,hv1⟩:=hG;(try simp only [List.length_map] at hv1);refine ⟨[i64 v],[eS b _],rfl,rfl,rfl,?_⟩)
  | (refine aB rfl (gK (enc:=i64) (xs:=[0,7,1]) (by omega) (by simp;omega) (fun _=>rfl)) ?_)
  | (refine aB rfl (gL (enc:=i64) (xs:=[0,7,1]) (by omega) (by simp;omega) (fun _=>rfl)) ?_)
  | (refine aR rfl (Exists.intro (n+1,r+1,ks++[n]) ⟨by dsimp only;omega,⟨by dsimp only;omega,by dsimp only;omega,by simp;omega⟩,aW (aA _ (by omega)),rfl,gM (by rw [List.map_append];rfl),trivial⟩))
  | (refine aR rfl (Exists.intro (n+1,r+1,ks) ⟨by dsimp only;omega,⟨by dsimp only;omega,by dsimp only;omega,by dsimp only;omega⟩,aW (aA _ (by omega)),rfl,rfl,trivial⟩))
  | refine aB rfl ?_ ?_
  | (refine aG rfl ?_;first | refine rb ?_ | refine ri ?_ | refine bX ?_ ?_ | refine cH ?_)
  | refine aD rfl ?_)
  ·exact ⟨ks++[cI [[D.int .i64 0],[D.int .i64 7],[D.int .i64 1]] v 0],_,bX (gM (by rw [List.map_append];rfl)) rfl,by simp;omega,by omega,by omega⟩
  ·exact ⟨ks,_,rfl,by omega,by omega,by omega⟩)
 exact ⟨outs,h1,FH h2⟩

set_option maxHeartbeats 2000000 in
theorem OE (b:List Int)(hb:Jk b)(p:Int)(hp:0≤p∧p<700000000):∃ outs,(∃ r p',outs=[Qy r,eS b p']∧r.keys.length≤7∧p≤p'∧p'≤p+20)∧FunOk PP W qI iC [eS b p] outs:=by
 obtain ⟨outs,h1,h2⟩:=dU (Φ:=FunOk PP W) (p:=p_s_l71Root) (ins:=[eS b p]) (G:=fun outs=>∃ r p',outs=[Qy r,eS b p']∧r.keys.length≤7∧p≤p'∧p'≤p+20) (by
  refine aV rfl (OD b hb p (by omega)) rfl (fun outs hG=>?_)
  obtain ⟨ks,q,rfl,hk,q0,q1⟩:=hG
  refine ⟨[Lc ks],[eS b q],rfl,rfl,rfl,?_⟩
  (repeat' first
  | (refine run_ite rfl (fun h=>?_) (fun h=>?_)<;>(try simp (disch:=omega) only [zB,eqDs,bM,Nat.reduceAdd,aA] at h)<;>(try (exfalso;omega)))
  | refine aI rfl ?_
  | refine aJ rfl ?_
  | (refine aV rfl (eM b hb _ _ (by first | omega | (simp only [List.length_map];omega)) (by first | omega | (simp only [List.length_map];omega) | (simp;done))) rfl (fun outs hG=>?_);obtain ⟨v,rfl,hv0,hv1⟩:=hG;(try simp only [List.length_map] at hv1);refine ⟨[i64 v],[eS b _],rfl,rfl,rfl,?_⟩)
  | (refine aB rfl (gK (enc:=i64) (xs:=[0,9,10]) (by omega) (by simp;omega) (fun _=>rfl)) ?_)
  | (refine aB rfl (gL (enc:=i64) (xs:=[0,9,10]) (by omega) (by simp;omega) (fun _=>rfl)) ?_)
  | (refine aB rfl (gK (enc:=i64) (xs:=[0,_]) (by omega) (by simp;omega) (fun _=>rfl)) ?_)
  | (refine aB rfl (gL (enc:=i64) (xs:=[0,_]) (by omega) (by simp;omega) (fun _=>rfl)) ?_)
  | refine aB rfl ?_ ?_
  | (refine aG rfl ?_;first | refine rb ?_ | refine ri ?_ | refine bX ?_ ?_ | refine cH ?_)
  | refine aD rfl ?_)
  all_goals first
   | exact ⟨⟨_,ks,_⟩,_,rfl,hk,by omega,by omega⟩
   | exact ⟨⟨_,[_],_⟩,_,rfl,by simp,by omega,by omega⟩)
 exact ⟨outs,h1,FF h2⟩

theorem BU (n u:Int)(ps:List Pk)(hs:mB ps)(hl:ps.length≤900):∃ outs,(∃ x ok,outs=[BZ x,bo ok]∧x.ms.length≤900)∧FunOk PP W mT fE [i64 n,i64 u,bT ps] outs:=by
 obtain ⟨outs,h1,h2⟩:=dU (Φ:=FunOk PP W) (p:=p_s_IndexOf) (ins:=[i64 n,i64 u,bT ps]) (G:=fun outs=>∃ x ok,outs=[BZ x,bo ok]∧x.ms.length≤900) (by
  (repeat' first
  | (refine run_ite rfl (fun h=>?_) (fun h=>?_)<;>(try simp (disch:=omega) only [zB,eqDs,bM,Nat.reduceAdd,aA] at h)<;>(try (exfalso;omega)))
  | refine aI rfl ?_
  | refine aJ rfl ?_
  | refine aH rfl (wF ps hs) rfl ?_
  | refine aB rfl ?_ ?_
  | (refine aG rfl ?_;first | refine rb ?_ | refine ri ?_ | refine bX ?_ ?_ | refine cH ?_)
  | refine aD rfl ?_)
  ·exact ⟨Lz,false,rfl,by simp [Lz]⟩
  refine aX rfl (fun i:Int=>0≤i∧i≤ps.length) (fun i=>[(9,.val (i64 i)),(8,.val (BZ ⟨n,u,(ps.take i.toNat).map eO⟩)),(2,.val (bT ps)),(6,.val (BZ Lz))]) (fun i=>(ps.length - i).toNat) 0 ⟨by omega,by omega⟩ ⟨rfl,rfl,rfl,rfl,trivial⟩ rfl ?_
  rintro i e ⟨h0,hN⟩
  have hle:((ps.take i.toNat).map eO).length≤i.toNat:=by rw [List.length_map,List.length_take];omega
  by_cases hi:i<ps.length
  ·have hsm:=kY hs h0 hi
   (repeat' first
  | (refine run_ite rfl (fun h=>?_) (fun h=>?_)<;>(try simp (disch:=omega) only [zB,eqDs,bM,Nat.reduceAdd,aA] at h)<;>(try (exfalso;omega)))
  | refine aI rfl ?_
  | refine aJ rfl ?_
  | refine iT rfl (qS (ix ps i) hsm) rfl ?_
  | refine iT rfl (wI (textM (ix ps i)) (Nat.le_trans (lI _) (by omega))) rfl ?_
  | (refine aR rfl (Exists.intro (i+1) ⟨by omega,⟨by omega,by omega⟩,aW (aA _ (by omega)),?_,rfl,rfl,trivial⟩))
  | refine aB rfl ?_ ?_
  | (refine aG rfl ?_;first | refine rb ?_ | refine ri ?_ | refine bX ?_ ?_ | refine cH ?_)
  | refine aD rfl ?_)
   refine Eq.trans (b:=[.int .i64 n,.int .i64 u,.sl (((ps.take i.toNat).map eO).map Gn++[[.int .i64 (cI (ps.map ePk) i 0),.int .i64 (cI (ps.map ePk) i 1),.int .i64 (sZ (textM (ix ps i)))]])]) rfl ?_
   show _=([.int .i64 n,.int .i64 u,.sl (((ps.take (i+1).toNat).map eO).map Gn)]:List D)
   rw [DX,DY,iR ps h0 hi,List.map_append,List.map_append]
   rfl
  ·have ht:ps.take i.toNat=ps:=List.take_of_length_le (by omega)
   rw [ht] at hle ⊢
   (repeat' first
  | (refine run_ite rfl (fun h=>?_) (fun h=>?_)<;>(try simp (disch:=omega) only [zB,eqDs,bM,Nat.reduceAdd,aA] at h)<;>(try (exfalso;omega)))
  | refine aI rfl ?_
  | refine aJ rfl ?_
  | refine aH rfl (yD ⟨n,u,ps.map eO⟩ (by rw [List.length_map];unfold lim;omega)) rfl ?_
  | refine aB rfl ?_ ?_
  | (refine aG rfl ?_;first | refine rb ?_ | refine ri ?_ | refine bX ?_ ?_ | refine cH ?_)
  | refine aD rfl ?_)
   ·exact ⟨Lz,false,rfl,by simp [Lz]⟩
   ·exact ⟨⟨n,u,ps.map eO⟩,true,rfl,by simp;omega⟩)
 exact ⟨outs,h1,Ex h2⟩
theorem MG (b:List Int)(hb:Jk b)(p:Int)(hp:0≤p∧p<700000000):∃ outs,(∃ x p',outs=[BZ x,eS b p']∧x.ms.length≤901∧p≤p'∧p'≤p+400)∧FunOk PP W oV gA [eS b p] outs:=by
 obtain ⟨outs,h1,h2⟩:=dU (Φ:=FunOk PP W) (p:=p_s_l71Index) (ins:=[eS b p]) (G:=fun outs=>∃ x p',outs=[BZ x,eS b p']∧x.ms.length≤901∧p≤p'∧p'≤p+400) (by
  (repeat' first
  | (refine run_ite rfl (fun h=>?_) (fun h=>?_)<;>(try simp (disch:=omega) only [zB,eqDs,bM,Nat.reduceAdd,aA] at h)<;>(try (exfalso;omega)))
  | refine aI rfl ?_
  | refine aJ rfl ?_
  | (refine aV rfl (eM b hb _ _ (by first | omega | (simp only [List.length_map];omega)) (by first | omega | (simp only [List.length_map];omega) | (simp;done))) rfl (fun outs hG=>?_);obtain ⟨v,rfl,hv0,hv1⟩:=hG;(try simp only [List.length_map] at hv1);refine ⟨[i64 v],[eS b _],rfl,rfl,rfl,?_⟩)
  | (refine aB rfl (gK (enc:=i64) (xs:=[0,30,31]) (by omega) (by simp;omega) (fun _=>rfl)) ?_)
  | (refine aB rfl (gL (enc:=i64) (xs:=[0,30,31]) (by omega) (by simp;omega) (fun _=>rfl)) ?_)
  | (refine aB rfl (gK (enc:=i64) (xs:=[-1,60,61]) (by omega) (by simp;omega) (fun _=>rfl)) ?_)
  | (refine aB rfl (gL (enc:=i64) (xs:=[-1,60,61]) (by omega) (by simp;omega) (fun _=>rfl)) ?_)
  | (refine aV rfl (Dr b hb _ (by omega)) rfl (fun outs hG=>?_);obtain ⟨ps,q,rfl,hq1,hq2,hq3,hq4⟩:=hG;refine ⟨[bT ps],[eS b q],rfl,rfl,rfl,?_⟩)
  | (refine aV rfl (BU _ _ ps (nY hq1 (by omega)) (by omega)) rfl (fun outs hG=>?_);obtain ⟨x,ok,rfl,hx⟩:=hG;refine ⟨[BZ x,bo ok],[],rfl,rfl,rfl,?_⟩)
  | refine aB rfl ?_ ?_
  | (refine aG rfl ?_;first | refine rb ?_ | refine ri ?_ | refine bX ?_ ?_ | refine cH ?_)
  | refine aD rfl ?_)
  ·exact ⟨⟨_,x.till,x.ms⟩,q+1+1,rfl,by dsimp only;omega,by omega,by omega⟩
  ·exact ⟨⟨x.num,cI [[D.int .i64 (-1)],[D.int .i64 60],[D.int .i64 61]] v 0,x.ms⟩,q+1+1,rfl,by dsimp only;omega,by omega,by omega⟩
  ·exact ⟨⟨x.num,x.till,x.ms++[⟨_,_,_⟩]⟩,_,bX (by dsimp only [BZ];rw [List.map_append];rfl) rfl,by rw [List.length_append];simp only [List.length_cons,List.length_nil];omega,by omega,by omega⟩
  ·exact ⟨x,_,rfl,by omega,by omega,by omega⟩)
 exact ⟨outs,h1,Df h2⟩

theorem MH (b:List Int)(hb:Jk b)(p:Int)(hp:0≤p∧p<600000000):∃ outs,(∃ t ps p',outs=[Hg t,bT ps,eS b p']∧Nw t∧Cl ps∧ps.length≤7∧p≤p'∧p'≤p+1000)∧FunOk PP W oS gB [eS b p] outs:=by
 obtain ⟨outs,h1,h2⟩:=dU (Φ:=FunOk PP W) (p:=p_s_l71Trust) (ins:=[eS b p]) (G:=fun outs=>∃ t ps p',outs=[Hg t,bT ps,eS b p']∧Nw t∧Cl ps∧ps.length≤7∧p≤p'∧p'≤p+1000) (by
  (repeat' first
  | (refine run_ite rfl (fun h=>?_) (fun h=>?_)<;>(try simp (disch:=omega) only [zB,eqDs,bM,Nat.reduceAdd,aA] at h)<;>(try (exfalso;omega)))
  | refine aI rfl ?_
  | refine aJ rfl ?_
  | (refine aV rfl (eM b hb _ _ (by first | omega | (simp only [List.length_map];omega)) (by first | omega | (simp only [List.length_map];omega) | (simp;done))) rfl (fun outs hG=>?_);obtain ⟨v,rfl,hv0,hv1⟩:=hG;(try simp only [List.length_map] at hv1);refine ⟨[i64 v],[eS b _],rfl,rfl,rfl,?_⟩)
  | (refine aV rfl (OE b hb _ (by omega)) rfl (fun outs hG=>?_);obtain ⟨r,q,rfl,hr,hq3,hq4⟩:=hG;refine ⟨[Qy r],[eS b q],rfl,rfl,rfl,?_⟩)
  | (refine aV rfl (Dr b hb _ (by omega)) rfl (fun outs hG=>?_);obtain ⟨ps,q,rfl,hq1,hq2,hq3,hq4⟩:=hG;refine ⟨[bT ps],[eS b q],rfl,rfl,rfl,?_⟩)
  | (refine aV rfl (MG b hb _ (by omega)) rfl (fun outs hG=>?_);obtain ⟨x,q,rfl,hx,hq3,hq4⟩:=hG;refine ⟨[BZ x],[eS b q],rfl,rfl,rfl,?_⟩)
  | (refine aV rfl (BU _ _ ps (nY hq1 (by omega)) (by omega)) rfl (fun outs hG=>?_);obtain ⟨x,ok,rfl,hx⟩:=hG;refine ⟨[BZ x,bo ok],[],rfl,rfl,rfl,?_⟩)
  | refine aB rfl ?_ ?_
  | (refine aG rfl ?_;first | refine rb ?_ | refine ri ?_ | refine bX ?_ ?_ | refine cH ?_)
  | refine aD rfl ?_)
  ·exact ⟨⟨r,_,x⟩,ps,_,rfl,⟨by dsimp only;omega,by dsimp only;omega⟩,hq1,hq2,by omega,by omega⟩
  ·exact ⟨⟨r,_,x⟩,ps,_,rfl,⟨by dsimp only;omega,by dsimp only;omega⟩,hq1,hq2,by omega,by omega⟩
  ·exact ⟨⟨r,_,x⟩,ps,_,rfl,⟨by dsimp only;omega,by dsimp only;omega⟩,hq1,hq2,by omega,by omega⟩
  ·exact ⟨⟨r,_,Lz⟩,ps,_,rfl,⟨by dsimp only;omega,by simp [Lz]⟩,hq1,hq2,by omega,by omega⟩
  ·exact ⟨⟨r,_,x⟩,ps,_,rfl,⟨by dsimp only;omega,by dsimp only;omega⟩,hq1,hq2,by omega,by omega⟩
  ·exact ⟨⟨r,_,Lz⟩,ps,_,rfl,⟨by dsimp only;omega,by simp [Lz]⟩,hq1,hq2,by omega,by omega⟩)
 exact ⟨outs,h1,Dj h2⟩

theorem OF (b:List Int)(hb:Jk b)(p:Int)(hp:0≤p∧p<600000000)(ps:List Pk)(hs:mB ps)(hl:ps.length≤7):∃ outs,(∃ s p',outs=[bT s,eS b p']∧mB s∧s.length≤8∧p≤p'∧p'≤p+500)∧FunOk PP W qE iG [eS b p,bT ps] outs:=by
 obtain ⟨outs,h1,h2⟩:=dU (Φ:=FunOk PP W) (p:=p_s_l71Some) (ins:=[eS b p,bT ps]) (G:=fun outs=>∃ s p',outs=[bT s,eS b p']∧mB s∧s.length≤8∧p≤p'∧p'≤p+500) (by
  refine aX rfl (fun x:Int×Int×List Pk=>(0≤x.1∧x.1≤ps.length)∧(p≤x.2.1∧x.2.1≤p+x.1)∧(x.2.2.length:Int)≤x.1∧∀ q∈x.2.2,q∈ps) (fun x=>[(6,.val (i64 x.1)),(0,.val (eS b x.2.1)),(5,.val (bT x.2.2)),(1,.val (bT ps))]) (fun x=>(ps.length - x.1).toNat) (0,p,[]) ⟨by dsimp only;omega,by dsimp only;omega,by simp,by intro q hq;cases hq⟩ ⟨rfl,rfl,rfl,rfl,trivial⟩ rfl ?_
  rintro ⟨n,r,l⟩ e ⟨g0,g1,g2,g3⟩
  dsimp only at g0 g1 g2 g3 ⊢
  by_cases hi:n<ps.length
  ·(repeat' first
  | (refine run_ite rfl (fun h=>?_) (fun h=>?_)<;>(try simp (disch:=omega) only [zB,eqDs,bM,Nat.reduceAdd,aA] at h)<;>(try (exfalso;omega)))
  | refine aI rfl ?_
  | refine aJ rfl ?_
  | (refine aV rfl (eM b hb _ _ (by first | omega | (simp only [List.length_map];omega)) (by first | omega | (simp only [List.length_map];omega) | (simp;done))) rfl (fun outs hG=>?_);obtain ⟨v,rfl,hv0,hv1⟩:=hG;(try simp only [List.length_map] at hv1);refine ⟨[i64 v],[eS b _],rfl,rfl,rfl,?_⟩)
  | (refine aR rfl (Exists.intro (n+1,r+1,l++[ix ps n]) ⟨by dsimp only;omega,⟨by dsimp only;omega,by dsimp only;omega,by simp;omega,fun q hq=>(List.mem_append.1 hq).elim (g3 q) (fun h'=>by rw [List.mem_singleton.1 h'];exact lR g0.1 hi)⟩,aW (aA _ (by omega)),rfl,gM (by rw [List.map_append];simp only [zB,eqDs,bM,Nat.reduceAdd];rfl),rfl,trivial⟩))
  | (refine aR rfl (Exists.intro (n+1,r+1,l) ⟨by dsimp only;omega,⟨by dsimp only;omega,by dsimp only;omega,by dsimp only;omega,g3⟩,aW (aA _ (by omega)),rfl,rfl,rfl,trivial⟩))
  | refine aB rfl ?_ ?_
  | (refine aG rfl ?_;first | refine rb ?_ | refine ri ?_ | refine bX ?_ ?_ | refine cH ?_)
  | refine aD rfl ?_)
  ·(repeat' first
  | (refine run_ite rfl (fun h=>?_) (fun h=>?_)<;>(try simp (disch:=omega) only [zB,eqDs,bM,Nat.reduceAdd,aA] at h)<;>(try (exfalso;omega)))
  | refine aI rfl ?_
  | refine aJ rfl ?_
  | (refine aV rfl (eM b hb _ _ (by first | omega | (simp only [List.length_map];omega)) (by first | omega | (simp only [List.length_map];omega) | (simp;done))) rfl (fun outs hG=>?_);obtain ⟨v,rfl,hv0,hv1⟩:=hG;(try simp only [List.length_map] at hv1);refine ⟨[i64 v],[eS b _],rfl,rfl,rfl,?_⟩)
  | (refine aV rfl (Py b hb _ (by omega)) rfl (fun outs hG=>?_);obtain ⟨s,q,rfl,hs1,hs2,hq3,hq4⟩:=hG;refine ⟨[bT s],[eS b q],rfl,rfl,rfl,?_⟩)
  | refine aB rfl ?_ ?_
  | (refine aG rfl ?_;first | refine rb ?_ | refine ri ?_ | refine bX ?_ ?_ | refine cH ?_)
  | refine aD rfl ?_)
   ·exact ⟨s,_,rfl,hs1,hs2,by omega,by omega⟩
   ·exact ⟨l,_,rfl,⟨by unfold lim;omega,fun q hq=>hs.2 q (g3 q hq)⟩,by omega,by omega,by omega⟩)
 exact ⟨outs,h1,FT h2⟩
def MI (b:List Int):Prop:=b.length≤1048576∧∀ x∈b,0≤x∧x≤255
theorem Jq {b:List Int}(h:MI b):Jk (b.take 2000):=⟨by rw [List.length_take];omega,fun x hx=>h.2 x (List.mem_of_mem_take hx)⟩
theorem Fw (c:List Int)(hc:MI c):∃ outs,(∃ t s,outs=[Hg t,bT s]∧Nw t∧mB s)∧FunOk PP W iU cN [RV c] outs:=by
 obtain ⟨outs,h1,h2⟩:=dU (Φ:=FunOk PP W) (p:=p_s_DrawStoreTrim) (ins:=[RV c]) (G:=fun outs=>∃ t s,outs=[Hg t,bT s]∧Nw t∧mB s) (by
  have hb:=Jq hc
  have ho:=Nr (W:=W) c hc.1
  generalize c.take 2000=b at hb ho
  (repeat' first
  | (refine run_ite rfl (fun h=>?_) (fun h=>?_)<;>(try simp (disch:=omega) only [zB,eqDs,bM,Nat.reduceAdd,aA] at h)<;>(try (exfalso;omega)))
  | refine aI rfl ?_
  | refine aJ rfl ?_
  | refine aH rfl (ho) rfl ?_
  | (refine aV rfl (eM b hb _ _ (by first | omega | (simp only [List.length_map];omega)) (by first | omega | (simp only [List.length_map];omega) | (simp;done))) rfl (fun outs hG=>?_);obtain ⟨v,rfl,hv0,hv1⟩:=hG;(try simp only [List.length_map] at hv1);refine ⟨[i64 v],[eS b _],rfl,rfl,rfl,?_⟩)
  | (refine aV rfl (MH b hb 0 (by omega)) rfl (fun outs hG=>?_);obtain ⟨t,ps,q,rfl,ht,hq1,hq2,hq3,hq4⟩:=hG;refine ⟨[Hg t,bT ps],[eS b q],rfl,rfl,rfl,?_⟩)
  | (refine aV rfl (OF b hb _ (by omega) ps (nY hq1 (by omega)) (by omega)) rfl (fun outs hG=>?_);obtain ⟨s,q,rfl,hs1,hs2,hq3,hq4⟩:=hG;refine ⟨[bT s],[eS b q],rfl,rfl,rfl,?_⟩)
  | refine aB rfl ?_ ?_
  | (refine aG rfl ?_;first | refine rb ?_ | refine ri ?_ | refine bX ?_ ?_ | refine cH ?_)
  | refine aD rfl ?_)
  ·rename_i w hw0 hw1
   refine aV rfl (Ha b hb (q+1+1+1) (1+w) (1+v) (by omega) (by omega)) (by simp (disch:=omega) only [aA]) (fun outs hG=>?_)
   obtain ⟨k,q,rfl,hk1,hk2,hk3⟩:=hG
   refine ⟨[ePk k],[eS b q],rfl,rfl,rfl,?_⟩
   (repeat' first
  | (refine run_ite rfl (fun h=>?_) (fun h=>?_)<;>(try simp (disch:=omega) only [zB,eqDs,bM,Nat.reduceAdd,aA] at h)<;>(try (exfalso;omega)))
  | refine aI rfl ?_
  | refine aJ rfl ?_
  | refine aH rfl (OB s hs1.1 _ _) rfl ?_
  | refine aH rfl (wF s hs1) rfl ?_
  | refine aH rfl (BM s hs1 (by omega) k (rJ hk1)) rfl ?_
  | refine aB rfl ?_ ?_
  | (refine aG rfl ?_;first | refine rb ?_ | refine ri ?_ | refine bX ?_ ?_ | refine cH ?_)
  | refine aD rfl ?_)
   ·refine ⟨t,yA s k,rfl,ht,?_,fun x hx=>?_⟩
    ·have:=Ci s k
     unfold lim
     omega
    ·rcases Cj hx with h' | h'
     ·exact hs1.2 x h'
     ·rw [h'];exact rJ hk1
   ·exact ⟨t,s,rfl,ht,hs1⟩
   ·exact ⟨t,s,rfl,ht,hs1⟩
  ·exact ⟨t,s,rfl,ht,hs1⟩)
 exact ⟨outs,h1,uI h2⟩
end
end V
end Go.Proofs.YtmgpamcpdblckaaGreatDoor

/-
Plain proofs: what slices.Insert does with one element that is put into a list.
-/
namespace Go.Proofs.YtmgpamcpdblckaaGreatDoor
open Go.RowKit
set_option maxRecDepth 100000
set_option maxHeartbeats 4000000

structure NewRow (w w':World) (row:Array Value):Prop where
 os:w'.os=w.os
 tape:w'.tape=w.tape
 output:w'.output=w.output
 size:w'.heap.size=w.heap.size+1
 same:∀ k,k<w.heap.size→w'.heap[k]? =w.heap[k]?
 new:w'.heap[w.heap.size]? =some (.cells row 41 (0,0))

theorem NewRow.drew {w w':World}{row:Array Value}(h:NewRow w w' row):NewRow w w'.drew row:=⟨h.os,h.tape,h.output,h.size,h.same,h.new⟩
theorem NewRow.set {w w':World}{row:Array Value}(h:NewRow w w' row)(row':Array Value):NewRow w (w'.setRow w.heap.size row') row':=
 ⟨h.os,h.tape,h.output,by simp [World.setRow,h.size],fun k hk=>(setRow_other w' _ k _ (by omega)).trans (h.same k hk),setRow_heap w' _ _ _ _ _ h.new⟩

end Go.Proofs.YtmgpamcpdblckaaGreatDoor

/-
Stores in their order: where one more package stands.
-/
namespace Go.Proofs.YtmgpamcpdblckaaGreatDoor
namespace V
section
open Classical
variable {W:Wld}

def RC (s:List Pk):Prop:=s.Pairwise dD
theorem OG {s:List Pk}(h:nX s):RC s:=OC fun i j h0 hij hj=>MF h _ i j rfl h0 hij hj
theorem OH {α:Type}[Inhabited α]{l:List α}{n:Nat}(h:n<l.length):l.getD n default=l[n]:=by simp [List.getD,h]
theorem MJ {s:List Pk}(h:RC s)(hP:∀ p∈s,PkOk p):nX s:=fun j j0 j1=>⟨hP _ (lR j0 j1),fun h0=>by
 have a1:ix s (j - 1)=s[(j - 1).toNat]'(by omega):=OH (by omega)
 have a2:ix s j=s[j.toNat]'(by omega):=by simp [ix,show j.toNat<s.length by omega]
 rw [a1,a2]
 exact List.pairwise_iff_getElem.1 h _ _ _ _ (by omega)⟩
end
section
open Classical
variable {W:Wld}

def fQ (ws:List (List UInt8))(b:UInt8):List (List UInt8):=if b=32 then ws++[[]] else ws.set (ws.length - 1) (ix ws ((ws.length:Int) - 1)++[b])
def cF (l:List UInt8):List (List UInt8):=l.foldl fQ [[]]
abbrev eW (w:List UInt8):List D:=[.str (bA w)]
abbrev RD (l:List (List UInt8)):List D:=[.sl (l.map eW)]
theorem OJ (ws:List (List UInt8))(i:Int)(hi:i.toNat<ws.length):cS (ws.map eW) i 0=bA (ix ws i):=by
 simp [cS,gF,hi,Pa]
theorem MK (ws:List (List UInt8))(b:UInt8)(h:1≤ws.length):1≤(fQ ws b).length∧(fQ ws b).length≤ws.length+1:=by
 unfold fQ
 split
 ·simp
 ·simp;omega
theorem uT:∀ (l:List UInt8) (ws:List (List UInt8)),1≤ws.length→1≤(l.foldl fQ ws).length∧(l.foldl fQ ws).length≤ws.length+l.length
 | [],ws,h=>⟨h,by simp⟩
 | b::r,ws,h=>by
  have h1:=MK ws b h
  have h2:=uT r (fQ ws b) h1.1
  simp only [List.foldl_cons,List.length_cons]
  omega
theorem Hn:∀ (l:List UInt8) (ws:List (List UInt8)) (n:Nat),(∀ w∈ws,w.length≤n)→∀ w∈l.foldl fQ ws,w.length≤n+l.length
 | [],ws,n,h,w,hw=>by simpa using h w hw
 | b::r,ws,n,h,w,hw=>by
  have h1:∀ w∈fQ ws b,w.length≤n+1:=by
   intro w hw
   unfold fQ at hw
   split at hw
   ·rcases List.mem_append.1 hw with h' | h'
    ·have:=h w h';omega
    ·rw [List.mem_singleton.1 h'];simp
   ·rcases List.mem_or_eq_of_mem_set hw with h' | h'
    ·have:=h w h';omega
    ·have hx:(ix ws ((ws.length:Int) - 1)).length≤n:=by
      by_cases hl:((ws.length:Int) - 1).toNat<ws.length
      ·exact h _ (lR (by omega) (by omega))
      ·rw [dG hl];simp [default]
     rw [h']
     simp
     omega
  have:=Hn r (fQ ws b) (n+1) h1 w hw
  simp only [List.length_cons]
  omega
theorem ML {a b:UInt8}:((a.toNat:Int)=(b.toNat:Int))↔a=b:=by
 constructor
 ·intro h
  exact UInt8.toNat_inj.1 (by omega)
 ·rintro rfl;rfl
theorem MM (l:List UInt8)(hl:l.length≤2000000):FunOk PP W vY lF [sT l,[.int .u8 32]] [RD (cF l)]:=by
 refine JT (aZ ?_)
 refine aX rfl (fun i:Int=>0≤i∧i≤l.length) (fun i=>[(6,.val (i64 i)),(5,.val (RD (cF (l.take i.toNat)))),(0,.val (sT l)),(1,.val [.int .u8 32])]) (fun i=>(l.length - i).toNat) 0 ⟨by omega,by omega⟩ ⟨rfl,rfl,rfl,rfl,trivial⟩ rfl ?_
 rintro i e ⟨h0,hN⟩
 have hsz:=bA_size l
 have hcl:=uT (l.take i.toNat) [[]] (by simp)
 rw [List.length_take] at hcl
 have hcd:cF (l.take i.toNat)=(l.take i.toNat).foldl fQ [[]]:=rfl
 rw [←hcd] at hcl
 by_cases hi:i<l.length
 ·have hst:cF (l.take (i+1).toNat)=fQ (cF (l.take i.toNat)) (ix l i):=by
   unfold cF
   rw [iR l h0 hi,List.foldl_append]
   rfl
  have hb:=Dt l i (by omega)
  clear hcd
  have hcw:=Hn (l.take i.toNat) [[]] 0 (fun w hw=>by simp at hw;simp [hw])
  rw [Nat.zero_add,List.length_take,show min i.toNat l.length=i.toNat by omega] at hcw
  have hcd:cF (l.take i.toNat)=(l.take i.toNat).foldl fQ [[]]:=rfl
  rw [←hcd] at hcw
  clear hcd
  generalize cF (l.take i.toNat)=ws at hst hcl hcw ⊢
  simp only [List.length_cons,List.length_nil] at hcl
  have hw64:IntKind.i64.wrap (((ws.map eW).length:Int) - 1)=(ws.length:Int) - 1:=by rw [List.length_map,aA _ (by omega)]
  have hlst:(ix ws ((ws.length:Int) - 1)).length≤i.toNat:=hcw _ (lR (by omega) (by omega))
  have hcs:cS (ws.map eW) ((ws.length:Int) - 1) 0=bA (ix ws ((ws.length:Int) - 1)):=OJ ws _ (by omega)
  have hu:UInt8.ofNat (Ol (bA l) i).toNat=ix l i:=by rw [hb];simp
  have h32:Ol (bA l) i=32↔ix l i=32:=by
   rw [hb]
   exact ML (b:=32)
  (repeat' first
  | (refine run_ite rfl (fun h=>?_) (fun h=>?_)<;>(try simp (disch:=omega) only [zB,eqDs,bM,Nat.reduceAdd,aA] at h)<;>(try (exfalso;omega)))
  | refine aI rfl ?_
  | refine aJ rfl ?_
  | refine aB rfl ?_ ?_
  | (refine aG rfl ?_;first | refine rb ?_ | refine ri ?_ | refine bX ?_ ?_ | refine cH ?_)
  | refine aD rfl ?_)
  ·refine aR rfl (Exists.intro (i+1) ⟨by omega,⟨by omega,by omega⟩,aW (aA _ (by omega)),gM ?_,rfl,rfl,trivial⟩)
   rw [hst,fQ,if_pos (h32.1 h),List.map_append]
   rfl
  ·rw [hw64,hcs,bA_size,Rn]
   unfold lim
   omega
  ·rw [hw64]
   exact Pz (sz:=1) (by omega) (by omega) (by omega) (fun _=>rfl) (Nat.le_of_ble_eq_true rfl)
  ·refine aR rfl (Exists.intro (i+1) ⟨by omega,⟨by omega,by omega⟩,aW (aA _ (by omega)),gM ?_,rfl,rfl,trivial⟩)
   rw [hst,fQ,if_neg (fun h'=>h (h32.2 h')),hw64,hcs,hu]
   have e1:bA (ix ws ((ws.length:Int) - 1))++⟨#[ix l i]⟩=bA (ix ws ((ws.length:Int) - 1)++[ix l i]):=bA_app _ [ix l i]
   rw [e1,show ws.length - 1=((ws.length:Int) - 1).toNat by omega]
   exact Nv (by omega) (by omega) rfl
 ·have ht:l.take i.toNat=l:=List.take_of_length_le (by omega)
  rw [ht]
  (repeat' first
  | (refine run_ite rfl (fun h=>?_) (fun h=>?_)<;>(try simp (disch:=omega) only [zB,eqDs,bM,Nat.reduceAdd,aA] at h)<;>(try (exfalso;omega)))
  | refine aI rfl ?_
  | refine aJ rfl ?_
  | refine aB rfl ?_ ?_
  | (refine aG rfl ?_;first | refine rb ?_ | refine ri ?_ | refine bX ?_ ?_ | refine cH ?_)
  | refine aD rfl ?_)
  rfl

/-! The words of a package's text. -/
theorem uU (n:Int)(h:0≤n∧n≤255):((u8 n).toNat:Int)=n:=by
 have:n.toNat<256:=by omega
 unfold u8
 rw [UInt8.toNat_ofNat']
 omega
theorem Ih (n:Int)(h:33≤n∧n≤255):u8 n≠32:=fun e=>by
 have h1:=uU n (by omega)
 rw [e] at h1
 have:(32:UInt8).toNat=32:=rfl
 omega
theorem oA:∀ (w:List UInt8),(∀ b∈w,b≠32)→∀ (ws:List (List UInt8)) (v:List UInt8),w.foldl fQ (ws++[v])=ws++[v++w]
 | [],_,ws,v=>by simp
 | b::r,h,ws,v=>by
  have h1:fQ (ws++[v]) b=ws++[v++[b]]:=by
   unfold fQ
   rw [if_neg (h b (List.mem_cons_self ..))]
   have e:ix (ws++[v]) (((ws++[v]).length:Int) - 1)=v:=by
    have:(((ws++[v]).length:Int) - 1).toNat=ws.length:=by simp
    simp [ix,this]
   rw [e,show (ws++[v]).length - 1=ws.length by simp]
   simp
  rw [List.foldl_cons,h1,oA r (fun x hx=>h x (List.mem_cons_of_mem _ hx))]
  simp
theorem BV {α:Type}(f:α→List UInt8):∀ (xs:List α),(∀ x∈xs,∀ b∈f x,b≠32)→∀ ws:List (List UInt8),(xs.flatMap (fun x=>32::f x)).foldl fQ ws=ws++xs.map f
 | [],_,ws=>by simp
 | x::r,h,ws=>by
  rw [List.flatMap_cons,List.foldl_append,List.foldl_cons]
  have:fQ ws 32=ws++[[]]:=by unfold fQ;rw [if_pos rfl]
  rw [this,oA (f x) (h x (List.mem_cons_self ..)),BV f r (fun y hy=>h y (List.mem_cons_of_mem _ hy))]
  simp
def fW (f:P2):List UInt8:=[u8 (48+f.a),58,u8 (48+f.b)]
def dW (d:P2):List UInt8:=nmT d.a d.b
def cJ (p:Pk):List (List UInt8):=nmT p.name p.ver::(p.files.map fW++p.deps.map dW)
theorem MN {n v:Int}(hn:1≤n∧n≤4)(hv:1≤v∧v≤5):∀ b∈nmT n v,b≠32:=by
 intro b hb
 simp only [nmT,List.mem_cons,List.not_mem_nil,or_false] at hb
 rcases hb with rfl | rfl
 ·exact Ih _ (by omega)
 ·exact Ih _ (by omega)
theorem uV {p:Pk}(h:PkOk p):cF (textM p)=cJ p:=by
 have hF:=h.2.2.1.1
 have hD:=h.2.2.2.1
 have e:textM p=nmT p.name p.ver++p.files.flatMap (fun f=>32::fW f)++p.deps.flatMap (fun d=>32::dW d):=by
  rw [textM,if_pos h]
  rfl
 unfold cF
 rw [e,List.foldl_append,List.foldl_append]
 have h1:(nmT p.name p.ver).foldl fQ [[]]=[nmT p.name p.ver]:=oA _ (MN h.1 h.2.1) [] []
 rw [h1,BV fW p.files (fun f hf b hb=>by
  obtain ⟨j,j0,j1,rfl⟩:=sY hf
  obtain ⟨a1,a2,_⟩:=hF j j0 j1
  simp only [fW,List.mem_cons,List.not_mem_nil,or_false] at hb
  rcases hb with rfl | rfl | rfl
  ·exact Ih _ (by omega)
  ·decide
  ·exact Ih _ (by omega)),BV dW p.deps (fun d hd=>by
  obtain ⟨j,j0,j1,rfl⟩:=sY hd
  obtain ⟨a1,_,a2,_⟩:=hD j j0 j1
  exact MN a1 a2)]
 simp [cJ]
end
section
open Classical

theorem MO (ws xs:List (List UInt8))(b:UInt8)(h:xs≠[]):fQ (ws++xs) b=ws++fQ xs b:=by
 have hl:0<xs.length:=List.length_pos_iff.2 h
 unfold fQ
 by_cases hb:b=32
 ·rw [if_pos hb,if_pos hb,List.append_assoc]
 ·rw [if_neg hb,if_neg hb]
  have e1:ix (ws++xs) (((ws++xs).length:Int) - 1)=ix xs ((xs.length:Int) - 1):=by
   have a1:(((ws++xs).length:Int) - 1).toNat=ws.length+(xs.length - 1):=by rw [List.length_append];omega
   have a2:((xs.length:Int) - 1).toNat=xs.length - 1:=by omega
   simp only [ix,a1,a2,List.getElem?_append_right (Nat.le_add_right _ _),Nat.add_sub_cancel_left,List.getD_eq_getElem?_getD]
  rw [e1,List.set_append_right _ _ (by rw [List.length_append];omega),show (ws++xs).length - 1 - ws.length=xs.length - 1 by rw [List.length_append];omega]
theorem OK (xs:List (List UInt8))(b:UInt8)(h:xs≠[]):fQ xs b≠[]:=by
 unfold fQ
 split
 ·simp
 ·simp [h]
theorem Ii:∀ (r:List UInt8) (ws xs:List (List UInt8)),xs≠[]→r.foldl fQ (ws++xs)=ws++r.foldl fQ xs
 | [],ws,xs,_=>rfl
 | b::r,ws,xs,h=>by rw [List.foldl_cons,List.foldl_cons,MO ws xs b h,Ii r ws _ (OK xs b h)]
theorem MP {w:List UInt8}(hw:∀ b∈w,b≠32)(r:List UInt8):cF (w++32::r)=w::cF r:=by
 unfold cF
 rw [List.foldl_append,List.foldl_cons]
 have h1:w.foldl fQ [[]]=[w]:=oA w hw [] []
 rw [h1]
 have h2:fQ [w] 32=[w]++[[]]:=by unfold fQ;rw [if_pos rfl]
 rw [h2,Ii r [w] [[]] (by simp)]
 rfl
theorem OL {w:List UInt8}(hw:∀ b∈w,b≠32):cF w=[w]:=oA w hw [] []
theorem Cq:∀ (n:Nat) (l:List UInt8),l.length≤n→Lib.splitK [32] 0 (Lib.count l [32]) l=cF l
 | n,l,hn=>by
  rcases Lib.index_spec l [32] with ⟨h1,_⟩ | ⟨i,h1,h2,_,_⟩
  ·have hno:∀ b∈l,b≠32:=fun b hb e=>by
    subst e
    obtain ⟨k,hk⟩:=List.mem_iff_getElem?.1 hb
    exact Lib.indexByte_none ((Lib.index_one l 32).symm.trans h1) k hk
   rw [Lib.count_miss h1,OL hno]
   rfl
  ·have hi:=(Lib.index_one l 32).symm.trans h1
   obtain ⟨g1,g2⟩:=Lib.indexByte_some hi
   have hlt:i<l.length:=(List.getElem?_eq_some_iff.1 g1).1
   have hd:l=l.take i++32::l.drop (i+1):=by
    have:l[i]=32:=(List.getElem?_eq_some_iff.1 g1).2
    rw [←this,←List.drop_eq_getElem_cons hlt,List.take_append_drop]
   have hw:∀ b∈l.take i,b≠32:=fun b hb e=>by
    subst e
    obtain ⟨k,hk⟩:=List.mem_iff_getElem?.1 hb
    have hk':=(List.getElem?_eq_some_iff.1 hk).1
    rw [List.length_take] at hk'
    rw [List.getElem?_take_of_lt (by omega)] at hk
    exact g2 k (by omega) hk
   have hc:Lib.count l [32]=1+Lib.count (l.drop (i+1)) [32]:=Lib.count_hit (by simp) h1
   rw [hc,Nat.add_comm]
   have hs:Lib.splitK [32] 0 (Lib.count (l.drop (i+1)) [32]+1) l=l.take i::Lib.splitK [32] 0 (Lib.count (l.drop (i+1)) [32]) (l.drop (i+1)):=by
    rw [Lib.splitK,h1,if_neg (by simp),Int.toNat_natCast]
    rfl
   cases n with
   | zero=>omega
   | succ n=>
    rw [hs,Cq n (l.drop (i+1)) (by rw [List.length_drop];omega)]
    conv=>rhs;rw [hd]
    rw [MP hw]
theorem OM (s:ByteArray):bA s.data.toList=s:=by
 apply ByteArray.ext
 simp [bA]
theorem Ho (l:List UInt8):Lib.splitB ⟨#[32]⟩ 0 (Lib.countB (bA l) ⟨#[32]⟩) (bA l)=(cF l).map bA:=by
 have h:=Lib.splitB_data ⟨#[32]⟩ 0 (Lib.countB (bA l) ⟨#[32]⟩) (bA l)
 have e:Lib.splitK [32] 0 (Lib.count l [32]) l=cF l:=Cq l.length l (Nat.le_refl _)
 have h':(Lib.splitB ⟨#[32]⟩ 0 (Lib.countB (bA l) ⟨#[32]⟩) (bA l)).map (·.data.toList)=cF l:=h.trans e
 rw [←h',List.map_map]
 have:(bA∘fun s:ByteArray=>s.data.toList)=id:=by
  funext s
  exact OM s
 rw [this]
 simp
/-! A word cut at a colon; a digit read. -/
theorem Dv (n:Int)(h:(48≤n∧n≤57)∨(59≤n∧n≤255)):u8 n≠58:=fun e=>by
 have h1:=uU n (by omega)
 rw [e] at h1
 have:(58:UInt8).toNat=58:=rfl
 omega
theorem RE (x y:UInt8)(hx:x≠58):Lib.index [x,58,y] [58]=1:=by
 have h1:(58==x)=false:=by simp;exact fun e=>hx e.symm
 simp [Lib.index,List.isPrefixOf,h1]
theorem QC (x y:UInt8)(hx:x≠58)(hy:y≠58):Lib.index [x,y] [58]= -1:=by
 have h1:(58==x)=false:=by simp;exact fun e=>hx e.symm
 have h2:(58==y)=false:=by simp;exact fun e=>hy e.symm
 simp [Lib.index,List.isPrefixOf,h1,h2]
theorem QD (f:P2)(ha:0≤f.a∧f.a≤5):Lib.cut (fW f) [58]=([u8 (48+f.a)],[u8 (48+f.b)],true):=by
 have h:=RE (u8 (48+f.a)) (u8 (48+f.b)) (Dv _ (.inl (by omega)))
 unfold Lib.cut fW
 rw [h,if_pos (by decide)]
 rfl
theorem ON {n v:Int}(hn:1≤n∧n≤4)(hv:1≤v∧v≤5):Lib.cut (nmT n v) [58]=(nmT n v,[],false):=by
 have h:=QC (u8 (97+n - 1)) (u8 (48+v)) (Dv _ (.inr (by omega))) (Dv _ (.inl (by omega)))
 unfold Lib.cut nmT
 rw [h,if_neg (by decide)]
end
section
open Classical

def nu (w:List UInt8)(i d:Int):Int:=((ix w i).toNat:Int) - d
def rN (p:Pk)(i:Int)(w:List UInt8):Pk:=
 if i=0∧w.length=2 then ⟨nu w 0 96,nu w 1 48,p.files,p.deps⟩
 else if 0<i∧w.length=3 then ⟨p.name,p.ver,p.files++[⟨nu w 0 48,nu w 2 48⟩],p.deps⟩
 else if 0<i∧w.length=2 then ⟨p.name,p.ver,p.files,p.deps++[⟨nu w 0 96,nu w 1 48⟩]⟩
 else p
def QV:Pk:=⟨0,0,[],[]⟩
def yW (ws:List (List UInt8)):Nat→Pk
 | 0=>QV
 | n+1=>rN (yW ws n) n (ix ws n)
theorem MQ (ws:List (List UInt8)){i:Int}(h:0≤i):yW ws (i+1).toNat=rN (yW ws i.toNat) i (ix ws i):=by
 obtain ⟨k,rfl⟩:∃ k:Nat,i=k:=⟨i.toNat,by omega⟩
 rfl
theorem Ij (ws:List (List UInt8)):∀ n,(yW ws n).files.length≤n∧(yW ws n).deps.length≤n
 | 0=>⟨Nat.le_refl _,Nat.le_refl _⟩
 | n+1=>by
  have h:=Ij ws n
  show (rN (yW ws n) n (ix ws n)).files.length≤n+1∧(rN (yW ws n) n (ix ws n)).deps.length≤n+1
  unfold rN
  split
  ·exact ⟨by have:=h.1;show (yW ws n).files.length≤n+1;omega,by have:=h.2;show (yW ws n).deps.length≤n+1;omega⟩
  ·split
   ·simp;omega
   ·split
    ·simp;omega
    ·omega
def MR (l:List UInt8):Int:=
 match Lib.atoiAll l with
 | .ok v=>v
 | .«syntax»=>0
 | .range=>Lib.atoiSat l
def GE (w:List UInt8):P2:=if w=[] then ⟨0,0⟩ else ⟨nu w 0 96,MR (w.drop 1)⟩
def BW (p:Pk)(w:List UInt8):Pk:=
 if (Lib.cut w [58]).2.2=true then ⟨p.name,p.ver,p.files++[⟨MR (Lib.cut w [58]).1,MR (Lib.cut w [58]).2.1⟩],p.deps⟩
 else ⟨p.name,p.ver,p.files,p.deps++[GE w]⟩
def Cr (ws:List (List UInt8)):Nat→Pk
 | 0=>⟨(GE (ix ws 0)).a,(GE (ix ws 0)).b,[],[]⟩
 | n+1=>BW (Cr ws n) (ix (ws.drop 1) n)
theorem MS (ws:List (List UInt8)){i:Int}(h:0≤i):Cr ws (i+1).toNat=BW (Cr ws i.toNat) (ix (ws.drop 1) i):=by
 obtain ⟨k,rfl⟩:∃ k:Nat,i=k:=⟨i.toNat,by omega⟩
 rfl
theorem Ik (ws:List (List UInt8)):∀ n,(Cr ws n).files.length≤n∧(Cr ws n).deps.length≤n
 | 0=>⟨Nat.le_refl _,Nat.le_refl _⟩
 | n+1=>by
  have h:=Ik ws n
  show (BW (Cr ws n) (ix (ws.drop 1) n)).files.length≤n+1∧(BW (Cr ws n) (ix (ws.drop 1) n)).deps.length≤n+1
  unfold BW
  split
  ·simp;omega
  ·simp;omega
noncomputable def yF (l:List UInt8):Option Pk:=if h:∃ p,PkOk p∧textM p=l then some h.choose else none
theorem OO {n:Int}(h:0≤n∧n≤9):(((u8 (48+n)).toNat:Int)) - 48=n:=by rw [uU _ (by omega)];omega
theorem QE {n:Int}(h:1≤n∧n≤4):(((u8 (97+n - 1)).toNat:Int)) - 96=n:=by rw [uU _ (by omega)];omega
theorem QF {d:Int}(h:0≤d∧d≤9):MR [u8 (48+d)]=d:=by
 have:d=0∨d=1∨d=2∨d=3∨d=4∨d=5∨d=6∨d=7∨d=8∨d=9:=by omega
 rcases this with rfl | rfl | rfl | rfl | rfl | rfl | rfl | rfl | rfl | rfl<;>decide
theorem wK {p:Pk}(h:PkOk p):yW (cJ p) (cJ p).length=p:=by
 obtain ⟨hn,hv,⟨hF,hf2⟩,hD,hd2⟩:=h
 obtain ⟨name,ver,files,deps⟩:=p
 dsimp only at hn hv hF hf2 hD hd2
 have a1:=QE hn
 have a2:=OO (n:=ver) (by omega)
 have fk:∀ j:Int,0≤j→j<files.length→nu (fW (ix files j)) 0 48=(ix files j).a∧nu (fW (ix files j)) 2 48=(ix files j).b:=fun j j0 j1=>by
  obtain ⟨h1,h2,_⟩:=hF j j0 j1
  exact ⟨OO (by omega),OO (by omega)⟩
 have dk:∀ j:Int,0≤j→j<deps.length→nu (dW (ix deps j)) 0 96=(ix deps j).a∧nu (dW (ix deps j)) 1 48=(ix deps j).b:=fun j j0 j1=>by
  obtain ⟨h1,_,h2,_⟩:=hD j j0 j1
  exact ⟨QE (by omega),OO (by omega)⟩
 have e0:yW (cJ ⟨name,ver,files,deps⟩) 1=⟨name,ver,[],[]⟩:=by
  show rN QV 0 (nmT name ver)=_
  unfold rN
  rw [if_pos ⟨rfl,rfl⟩]
  show (⟨((u8 (97+name - 1)).toNat:Int) - 96,((u8 (48+ver)).toNat:Int) - 48,[],[]⟩:Pk)=_
  rw [a1,a2]
 have e1:∀ k:Nat,k≤files.length→yW (cJ ⟨name,ver,files,deps⟩) (1+k)=⟨name,ver,files.take k,[]⟩:=by
  intro k
  induction k with
  | zero=>intro _;exact e0
  | succ k ih=>
   intro hk
   show rN (yW (cJ ⟨name,ver,files,deps⟩) (1+k)) ((1+k:Nat):Int) (ix (cJ ⟨name,ver,files,deps⟩) ((1+k:Nat):Int))=_
   rw [ih (by omega)]
   have hw:ix (cJ ⟨name,ver,files,deps⟩) ((1+k:Nat):Int)=fW (ix files (k:Int)):=by
    have e1:(((1+k:Nat)):Int).toNat=k+1:=by omega
    simp only [ix,e1]
    simp [cJ,List.getElem?_append,show k<files.length by omega]
   obtain ⟨q1,q2⟩:=fk k (by omega) (by omega)
   rw [hw]
   unfold rN
   rw [if_neg (fun hh=>by have:=hh.1;omega),if_pos ⟨by omega,rfl⟩,q1,q2]
   show (⟨name,ver,files.take k++[ix files (k:Int)],[]⟩:Pk)=_
   have ht:=iR files (i:=(k:Int)) (by omega) (by omega)
   rw [show ((k:Int)+1).toNat=k+1 by omega,show ((k:Int)).toNat=k by omega] at ht
   rw [ht]
 have e2:∀ k:Nat,k≤deps.length→yW (cJ ⟨name,ver,files,deps⟩) (1+files.length+k)=⟨name,ver,files,deps.take k⟩:=by
  intro k
  induction k with
  | zero=>intro _;exact (e1 files.length (Nat.le_refl _)).trans (by rw [List.take_length];rfl)
  | succ k ih=>
   intro hk
   show rN (yW (cJ ⟨name,ver,files,deps⟩) (1+files.length+k)) ((1+files.length+k:Nat):Int) (ix (cJ ⟨name,ver,files,deps⟩) ((1+files.length+k:Nat):Int))=_
   rw [ih (by omega)]
   have hw:ix (cJ ⟨name,ver,files,deps⟩) ((1+files.length+k:Nat):Int)=dW (ix deps (k:Int)):=by
    have e1:(((1+files.length+k:Nat)):Int).toNat=(files.length+k)+1:=by omega
    simp only [ix,e1]
    simp [cJ,List.getElem?_append,show k<deps.length by omega]
   obtain ⟨q1,q2⟩:=dk k (by omega) (by omega)
   rw [hw]
   unfold rN
   rw [if_neg (fun hh=>by have:=hh.1;omega),if_neg (fun hh=>by have:=hh.2;cases this),if_pos ⟨by omega,rfl⟩,q1,q2]
   show (⟨name,ver,files,deps.take k++[ix deps (k:Int)]⟩:Pk)=_
   have ht:=iR deps (i:=(k:Int)) (by omega) (by omega)
   rw [show ((k:Int)+1).toNat=k+1 by omega,show ((k:Int)).toNat=k by omega] at ht
   rw [ht]
 have hl:(cJ ⟨name,ver,files,deps⟩).length=1+files.length+deps.length:=by simp [cJ];omega
 rw [hl,e2 deps.length (Nat.le_refl _),List.take_length]
theorem MT {n v:Int}(hn:1≤n∧n≤4)(hv:1≤v∧v≤5):GE (nmT n v)=⟨n,v⟩:=by
 unfold GE
 rw [if_neg (by simp [nmT])]
 have h2:MR ((nmT n v).drop 1)=v:=QF (d:=v) (by omega)
 rw [h2]
 have h1:nu (nmT n v) 0 96=n:=QE hn
 rw [h1]
theorem Jr {p:Pk}(h:PkOk p):Cr (cJ p) ((cJ p).length - 1)=p:=by
 obtain ⟨hn,hv,⟨hF,hf2⟩,hD,hd2⟩:=h
 obtain ⟨name,ver,files,deps⟩:=p
 dsimp only at hn hv hF hf2 hD hd2
 have e0:Cr (cJ ⟨name,ver,files,deps⟩) 0=⟨name,ver,[],[]⟩:=by
  show (⟨(GE (nmT name ver)).a,(GE (nmT name ver)).b,[],[]⟩:Pk)=_
  rw [MT hn hv]
 have e1:∀ k:Nat,k≤files.length→Cr (cJ ⟨name,ver,files,deps⟩) k=⟨name,ver,files.take k,[]⟩:=by
  intro k
  induction k with
  | zero=>intro _;exact e0
  | succ k ih=>
   intro hk
   show BW (Cr (cJ ⟨name,ver,files,deps⟩) k) (ix (files.map fW++deps.map dW) (k:Int))=_
   rw [ih (by omega)]
   have hw:ix (files.map fW++deps.map dW) (k:Int)=fW (ix files (k:Int)):=by
    simp [ix,List.getElem?_append,show k<files.length by omega]
   obtain ⟨h1,h2,_⟩:=hF k (by omega) (by omega)
   rw [hw]
   unfold BW
   rw [QD _ (by omega),if_pos rfl]
   show (⟨name,ver,files.take k++[⟨MR [u8 (48+(ix files (k:Int)).a)],MR [u8 (48+(ix files (k:Int)).b)]⟩],[]⟩:Pk)=_
   rw [QF (by omega),QF (by omega)]
   have ht:=iR files (i:=(k:Int)) (by omega) (by omega)
   rw [show ((k:Int)+1).toNat=k+1 by omega,show ((k:Int)).toNat=k by omega] at ht
   rw [ht]
 have e2:∀ k:Nat,k≤deps.length→Cr (cJ ⟨name,ver,files,deps⟩) (files.length+k)=⟨name,ver,files,deps.take k⟩:=by
  intro k
  induction k with
  | zero=>intro _;exact (e1 files.length (Nat.le_refl _)).trans (by rw [List.take_length];rfl)
  | succ k ih=>
   intro hk
   show BW (Cr (cJ ⟨name,ver,files,deps⟩) (files.length+k)) (ix (files.map fW++deps.map dW) ((files.length+k:Nat):Int))=_
   rw [ih (by omega)]
   have hw:ix (files.map fW++deps.map dW) ((files.length+k:Nat):Int)=dW (ix deps (k:Int)):=by
    have e1:(((files.length+k:Nat)):Int).toNat=(files.length+k):=by omega
    simp only [ix,e1]
    simp [List.getElem?_append,show k<deps.length by omega]
   obtain ⟨h1,_,h2,_⟩:=hD k (by omega) (by omega)
   rw [hw]
   unfold BW dW
   rw [ON h1 h2,if_neg (by simp),MT h1 h2]
   show (⟨name,ver,files,deps.take k++[ix deps (k:Int)]⟩:Pk)=_
   have ht:=iR deps (i:=(k:Int)) (by omega) (by omega)
   rw [show ((k:Int)+1).toNat=k+1 by omega,show ((k:Int)).toNat=k by omega] at ht
   rw [ht]
 have hl:(cJ ⟨name,ver,files,deps⟩).length - 1=files.length+deps.length:=by simp [cJ]
 rw [hl,e2 deps.length (Nat.le_refl _),List.take_length]
theorem Js {p q:Pk}(hp:PkOk p)(hq:PkOk q)(h:textM p=textM q):p=q:=by
 have h1:=wK hp
 have h2:=wK hq
 rw [←uV hp] at h1
 rw [←uV hq,←h] at h2
 exact h1.symm.trans h2
theorem qU {p:Pk}(hp:PkOk p):yF (textM p)=some p:=by
 have h:∃ q,PkOk q∧textM q=textM p:=⟨p,hp,rfl⟩
 unfold yF
 rw [dif_pos h]
 exact congrArg some (Js h.choose_spec.1 hp h.choose_spec.2)
theorem BX {l:List UInt8}{p:Pk}(h:yF l=some p):PkOk p∧textM p=l:=by
 unfold yF at h
 by_cases h':∃ p,PkOk p∧textM p=l
 ·rw [dif_pos h'] at h
  cases h
  exact h'.choose_spec
 ·rw [dif_neg h'] at h
  cases h
theorem zM {l:List UInt8}(h:∀ p,PkOk p→textM p≠l):yF l=none:=by
 unfold yF
 rw [dif_neg]
 rintro ⟨p,h1,h2⟩
 exact h p h1 h2
theorem RF (l:List UInt8):yF l=if PkOk (yW (cF l) (cF l).length)∧textM (yW (cF l) (cF l).length)=l then some (yW (cF l) (cF l).length) else none:=by
 by_cases h:PkOk (yW (cF l) (cF l).length)∧textM (yW (cF l) (cF l).length)=l
 ·rw [if_pos h]
  have:=qU h.1
  rw [h.2] at this
  exact this
 ·rw [if_neg h]
  refine zM fun p h1 h2=>h ?_
  rw [←h2,uV h1,wK h1]
  exact ⟨h1,rfl⟩
theorem RG (l:List UInt8):yF l=if PkOk (Cr (cF l) ((cF l).length - 1))∧textM (Cr (cF l) ((cF l).length - 1))=l then some (Cr (cF l) ((cF l).length - 1)) else none:=by
 by_cases h:PkOk (Cr (cF l) ((cF l).length - 1))∧textM (Cr (cF l) ((cF l).length - 1))=l
 ·rw [if_pos h]
  have:=qU h.1
  rw [h.2] at this
  exact this
 ·rw [if_neg h]
  refine zM fun p h1 h2=>h ?_
  rw [←h2,uV h1,Jr h1]
  exact ⟨h1,rfl⟩
theorem Jt {p:Pk}(h:¬PkOk p):textM p=[]:=by unfold textM;rw [if_neg h]
theorem MU {p:Pk}(h:PkOk p):textM p≠[]:=by unfold textM;rw [if_pos h];simp [nmT]
theorem OP:yF []=none:=zM fun _ h=>MU h
theorem Fx {l:List UInt8}(h:30<l.length):yF l=none:=zM fun p _ e=>by have:=lI p;rw [e] at this;omega
noncomputable def QG (o:Option Pk):Pk:=o.getD QV
end
section
open Classical
variable {W:Wld}

theorem MV (bs:ByteArray):∀ (n i:Nat) (r:List UInt8),bs.size - i=n→ByteArray.toList.loop bs i r=r.reverse++bs.data.toList.drop i:=by
 intro n
 induction n with
 | zero=>
  intro i r h
  unfold ByteArray.toList.loop
  rw [if_neg (by omega),List.drop_eq_nil_of_le (by show bs.data.size≤i;have:bs.data.size=bs.size:=rfl;omega),List.append_nil]
 | succ n ih=>
  intro i r h
  have hs:bs.data.size=bs.size:=rfl
  unfold ByteArray.toList.loop
  rw [if_pos (by omega),ih (i+1) _ (by omega),List.reverse_cons,List.append_assoc,List.singleton_append]
  have hd:bs.data.toList.drop i=bs.data.toList[i]'(by show i<bs.data.size;omega)::bs.data.toList.drop (i+1):=List.drop_eq_getElem_cons _
  rw [hd]
  have hg:bs.get! i=bs.data.toList[i]'(by show i<bs.data.size;omega):=by
   show bs.data[i]! =_
   rw [getElem!_pos bs.data i (by omega)]
   simp
  rw [hg]
theorem Cs (bs:ByteArray):bs.toList=bs.data.toList:=by
 unfold ByteArray.toList
 rw [MV bs bs.size 0 [] (by omega)]
 simp
theorem tA {a b:List UInt8}:(bA a).toList=(bA b).toList↔a=b:=by
 rw [Cs,Cs]
 simp [bA]
theorem RH {n v n' v':Int}{f f' d d':List P2}(h1:n=n')(h2:v=v')(h3:f=f')(h4:d=d'):([.int .i64 n,.int .i64 v,.sl (f.map eP2),.sl (d.map eP2)]:List D)=ePk ⟨n',v',f',d'⟩:=by subst h1;subst h2;subst h3;subst h4;rfl
theorem MW {n v a b a' b':Int}{f d:List P2}(h1:a=a')(h2:b=b'):([.int .i64 n,.int .i64 v,.sl (f.map eP2++[[.int .i64 a,.int .i64 b]]),.sl (d.map eP2)]:List D)=ePk ⟨n,v,f++[⟨a',b'⟩],d⟩:=by
 subst h1;subst h2
 show _=([.int .i64 n,.int .i64 v,.sl ((f++[(⟨a,b⟩:P2)]).map eP2),.sl (d.map eP2)]:List D)
 rw [List.map_append]
 rfl
theorem MX {n v a b a' b':Int}{f d:List P2}(h1:a=a')(h2:b=b'):([.int .i64 n,.int .i64 v,.sl (f.map eP2),.sl (d.map eP2++[[.int .i64 a,.int .i64 b]])]:List D)=ePk ⟨n,v,f,d++[⟨a',b'⟩]⟩:=by
 subst h1;subst h2
 show _=([.int .i64 n,.int .i64 v,.sl (f.map eP2),.sl ((d++[(⟨a,b⟩:P2)]).map eP2)]:List D)
 rw [List.map_append]
 rfl
theorem OQ (w:List UInt8)(i d:Int)(h:0≤d∧d≤100)(b:Int)(hb:b=((ix w i).toNat:Int)):IntKind.i64.wrap (IntKind.i64.wrap b - d)=nu w i d:=by
 have:=(ix w i).toNat_lt
 rw [hb,aA ((ix w i).toNat:Int) (by omega),aA _ (by omega)]
 rfl
theorem MY (w:List UInt8)(i:Int)(b:Int)(hb:b=((ix w i).toNat:Int)):IntKind.i64.wrap (IntKind.i64.wrap (IntKind.i64.wrap b - 97)+1)=nu w i 96:=by
 have:=(ix w i).toNat_lt
 rw [hb,aA ((ix w i).toNat:Int) (by omega),aA (((ix w i).toNat:Int) - 97) (by omega),aA _ (by omega)]
 unfold nu
 omega
theorem Hp (l:List UInt8)(hl:l.length≤2000000):FunOk PP W mU fG [sT l] [ePk (QG (yF l)),bo (yF l).isSome]:=by
 refine Ez (aZ ?_)
 have hsz:=bA_size l
 by_cases h30:30<l.length
 ·rw [Fx h30]
  (repeat' first
  | (refine run_ite rfl (fun h=>?_) (fun h=>?_)<;>(try simp (disch:=omega) only [zB,eqDs,bM,Nat.reduceAdd,aA] at h)<;>(try (exfalso;omega)))
  | refine aI rfl ?_
  | refine aJ rfl ?_
  | refine aB rfl ?_ ?_
  | (refine aG rfl ?_;first | refine rb ?_ | refine ri ?_ | refine bX ?_ ?_ | refine cH ?_)
  | refine aD rfl ?_)
  all_goals rfl
 have hc:=MM (W:=W) l hl
 have hws:=uT l [[]] (by simp)
 simp only [List.length_cons,List.length_nil] at hws
 have hcd:l.foldl fQ [[]]=cF l:=rfl
 rw [hcd] at hws
 have hT:=RF l
 generalize cF l=ws at hc hws hT
 (repeat' first
  | (refine run_ite rfl (fun h=>?_) (fun h=>?_)<;>(try simp (disch:=omega) only [zB,eqDs,bM,Nat.reduceAdd,aA] at h)<;>(try (exfalso;omega)))
  | refine aI rfl ?_
  | refine aJ rfl ?_
  | refine aH rfl (hc) rfl ?_
  | refine aB rfl ?_ ?_
  | (refine aG rfl ?_;first | refine rb ?_ | refine ri ?_ | refine bX ?_ ?_ | refine cH ?_)
  | refine aD rfl ?_)
 refine aX rfl (fun i:Int=>0≤i∧i≤ws.length) (fun i=>[(6,.val (i64 i)),(4,.val (RD ws)),(5,.val (ePk (yW ws i.toNat))),(0,.val (sT l)),(2,.val [.int .i64 0,.int .i64 0,.sl [],.sl []])]) (fun i=>(ws.length - i).toNat) 0 ⟨by omega,by omega⟩ ⟨rfl,rfl,rfl,rfl,rfl,trivial⟩ rfl ?_
 rintro i e ⟨h0,hN⟩
 have hrl:=Ij ws i.toNat
 by_cases hi:i<ws.length
 ·have hcs:cS (ws.map eW) i 0=bA (ix ws i):=OJ _ i (by omega)
  have hbt:∀ j:Int,j.toNat<(ix ws i).length→Ol (cS (ws.map eW) i 0) j=((ix (ix ws i) j).toNat:Int):=fun j hj=>by rw [hcs];exact Dt _ j hj
  have hsz2:(cS (ws.map eW) i 0).size=(ix ws i).length:=by rw [hcs,bA_size]
  have hst:=MQ ws h0
  generalize yW ws i.toNat=p at hrl hst
  generalize ix ws i=w at hbt hsz2 hst
  (repeat' first
  | (refine run_ite rfl (fun h=>?_) (fun h=>?_)<;>(try simp (disch:=omega) only [zB,eqDs,bM,Nat.reduceAdd,aA] at h)<;>(try (exfalso;omega)))
  | refine aI rfl ?_
  | refine aJ rfl ?_
  | (refine aR rfl (Exists.intro (i+1) ⟨by omega,⟨by omega,by omega⟩,aW (aA _ (by omega)),rfl,?_,rfl,rfl,trivial⟩))
  | refine aB rfl ?_ ?_
  | (refine aG rfl ?_;first | refine rb ?_ | refine ri ?_ | refine bX ?_ ?_ | refine cH ?_)
  | refine aD rfl ?_)
  ·rw [hst,rN,if_pos ⟨by assumption,by omega⟩]
   exact RH (MY w 0 _ (hbt 0 (by show 0<_;omega))) (OQ w 1 48 (by omega) _ (hbt 1 (by show 1<_;omega))) rfl rfl
  ·rw [hst,rN,if_neg (by omega),if_neg (by omega),if_neg (by omega)]
   rfl
  ·rw [hst,rN,if_neg (by omega),if_pos ⟨by assumption,by omega⟩]
   exact MW (OQ w 0 48 (by omega) _ (hbt 0 (by show 0<_;omega))) (OQ w 2 48 (by omega) _ (hbt 2 (by show 2<_;omega)))
  ·rw [hst,rN,if_neg (by omega),if_neg (by omega),if_pos ⟨by assumption,by omega⟩]
   exact MX (MY w 0 _ (hbt 0 (by show 0<_;omega))) (OQ w 1 48 (by omega) _ (hbt 1 (by show 1<_;omega)))
  ·rw [hst,rN,if_neg (by omega),if_neg (by omega),if_neg (by omega)]
   rfl
 ·have hi':i=ws.length:=by omega
  subst hi'
  have hr:yW ws (ws.length:Int).toNat=yW ws ws.length:=rfl
  rw [hr] at hrl ⊢
  generalize yW ws ws.length=p at hrl hT
  have hs:SmP p:=⟨by unfold lim;omega,by unfold lim;omega⟩
  have h1:¬(bA (textM p)).toList=(bA l).toList→yF l=none:=fun h=>by rw [hT,if_neg (fun h'=>h (tA.2 h'.2))]
  have h2:(bA l).toList=(⟨#[]⟩:ByteArray).toList→yF l=none:=fun h=>by
   have:l=[]:=(tA (a:=l) (b:=[])).1 h
   rw [this]
   exact OP
  have h3:(bA (textM p)).toList=(bA l).toList→¬(bA l).toList=(⟨#[]⟩:ByteArray).toList→yF l=some p:=fun h h'=>by
   have e:=tA.1 h
   by_cases hp:PkOk p
   ·rw [hT,if_pos ⟨hp,e⟩]
   ·rw [Jt hp] at e
    exact absurd (tA.2 e.symm) h'
  (repeat' first
  | (refine run_ite rfl (fun h=>?_) (fun h=>?_)<;>(try simp (disch:=omega) only [zB,eqDs,bM,Nat.reduceAdd,aA] at h)<;>(try (exfalso;omega)))
  | refine aI rfl ?_
  | refine aJ rfl ?_
  | refine aH rfl (qS p hs) rfl ?_
  | refine aB rfl ?_ ?_
  | (refine aG rfl ?_;first | refine rb ?_ | refine ri ?_ | refine bX ?_ ?_ | refine cH ?_)
  | refine aD rfl ?_)
  all_goals first
   | (rw [h1 h];rfl)
   | (rw [h2 h];rfl)
   | (rw [h3 (by assumption) h];rfl)
end
section
open Classical
variable {W:Wld}

theorem yG (p:Pk)(hP:PkOk p):FunOk PP W mU fG [sT (textM p)] [ePk p,bo true]:=by
 have hl:=lI p
 have h:=Hp (W:=W) (textM p) (by omega)
 rw [qU hP] at h
 exact h
theorem Ju (x:Ix)(hl:x.ms.length≤lim)(p:Pk)(hs:SmP p)(hP:PkOk p):FunOk PP W vX lG [BZ x,sT (textM p)] [ePk (if eO p∈x.ms then p else QV),bo (decide (eO p∈x.ms))]:=by
 have hlen:=lI p
 unfold lim at hl
 by_cases hm:eO p∈x.ms
 ·rw [decide_eq_true hm,if_pos hm]
  refine CW (aZ ?_)
  (repeat' first
  | (refine run_ite rfl (fun h=>?_) (fun h=>?_)<;>(try simp (disch:=omega) only [zB,eqDs,bM,Nat.reduceAdd,aA] at h)<;>(try (exfalso;omega)))
  | refine aI rfl ?_
  | refine aJ rfl ?_
  | (refine dB rfl (yG p hP) rfl rfl ?_)
  | refine aB rfl ?_ ?_
  | (refine aG rfl ?_;first | refine rb ?_ | refine ri ?_ | refine bX ?_ ?_ | refine cH ?_)
  | refine aD rfl ?_)
  refine aX rfl (fun i:Int=>0≤i∧i≤x.ms.length∧uF i (fun j=>¬ix x.ms j=eO p)) (fun i=>[(8,.val (i64 i)),(2,.val (BZ x)),(6,.val (ePk p)),(1,.val (sT (textM p))),(4,.val [.int .i64 0,.int .i64 0,.sl [],.sl []])]) (fun i=>(x.ms.length - i).toNat) 0 ⟨by omega,by omega,cT _⟩ ⟨rfl,rfl,rfl,rfl,rfl,trivial⟩ rfl ?_
  rintro i e ⟨h0,hN,hB⟩
  have hmt:(ix x.ms i).name=p.name→(ix x.ms i).ver=p.ver→(ix x.ms i).sum=sZ (textM p)→ix x.ms i=eO p:=fun a b c=>Du a b c
  have hno:eO p∈x.ms→¬uF x.ms.length (fun j=>¬ix x.ms j=eO p):=fun h hb=>by
   obtain ⟨j,j0,j1,e⟩:=sY h
   exact hb j j0 j1 e
  have hnm:∀ {q:Mt},q=eO p→q.name=p.name∧q.ver=p.ver∧q.sum=sZ (textM p):=fun h=>by rw [h];exact ⟨rfl,rfl,rfl⟩
  (repeat' first
  | (refine run_ite rfl (fun h=>?_) (fun h=>?_)<;>(try simp (disch:=omega) only [zB,eqDs,bM,Nat.reduceAdd,aA] at h)<;>(try (exfalso;omega)))
  | refine aI rfl ?_
  | refine aJ rfl ?_
  | refine aH rfl (wI (textM p) (by omega)) rfl ?_
  | (refine aR rfl (Exists.intro (i+1) ⟨by omega,⟨by omega,by omega,cU hB ?_⟩,aW (aA _ (by omega)),rfl,rfl,rfl,rfl,trivial⟩))
  | refine aB rfl ?_ ?_
  | (refine aG rfl ?_;first | refine rb ?_ | refine ri ?_ | refine bX ?_ ?_ | refine cH ?_)
  | refine aD rfl ?_)
  all_goals first
   | rfl
   | exact fun h'=>h (hnm h').2.2
   | exact fun h'=>h (hnm h').2.1
   | exact fun h'=>h (hnm h').1
   | exact absurd (hmt (by assumption) (by assumption) h) (fun h'=>hm (h'▸lR h0 (by omega)))
   | exact absurd hm (fun h'=>hno h' (gI hB (by omega)))
 ·rw [decide_eq_false hm,if_neg hm]
  refine CW (aZ ?_)
  (repeat' first
  | (refine run_ite rfl (fun h=>?_) (fun h=>?_)<;>(try simp (disch:=omega) only [zB,eqDs,bM,Nat.reduceAdd,aA] at h)<;>(try (exfalso;omega)))
  | refine aI rfl ?_
  | refine aJ rfl ?_
  | (refine dB rfl (yG p hP) rfl rfl ?_)
  | refine aB rfl ?_ ?_
  | (refine aG rfl ?_;first | refine rb ?_ | refine ri ?_ | refine bX ?_ ?_ | refine cH ?_)
  | refine aD rfl ?_)
  refine aX rfl (fun i:Int=>0≤i∧i≤x.ms.length∧uF i (fun j=>¬ix x.ms j=eO p)) (fun i=>[(8,.val (i64 i)),(2,.val (BZ x)),(6,.val (ePk p)),(1,.val (sT (textM p))),(4,.val [.int .i64 0,.int .i64 0,.sl [],.sl []])]) (fun i=>(x.ms.length - i).toNat) 0 ⟨by omega,by omega,cT _⟩ ⟨rfl,rfl,rfl,rfl,rfl,trivial⟩ rfl ?_
  rintro i e ⟨h0,hN,hB⟩
  have hmt:(ix x.ms i).name=p.name→(ix x.ms i).ver=p.ver→(ix x.ms i).sum=sZ (textM p)→ix x.ms i=eO p:=fun a b c=>Du a b c
  have hno:eO p∈x.ms→¬uF x.ms.length (fun j=>¬ix x.ms j=eO p):=fun h hb=>by
   obtain ⟨j,j0,j1,e⟩:=sY h
   exact hb j j0 j1 e
  have hnm:∀ {q:Mt},q=eO p→q.name=p.name∧q.ver=p.ver∧q.sum=sZ (textM p):=fun h=>by rw [h];exact ⟨rfl,rfl,rfl⟩
  (repeat' first
  | (refine run_ite rfl (fun h=>?_) (fun h=>?_)<;>(try simp (disch:=omega) only [zB,eqDs,bM,Nat.reduceAdd,aA] at h)<;>(try (exfalso;omega)))
  | refine aI rfl ?_
  | refine aJ rfl ?_
  | refine aH rfl (wI (textM p) (by omega)) rfl ?_
  | (refine aR rfl (Exists.intro (i+1) ⟨by omega,⟨by omega,by omega,cU hB ?_⟩,aW (aA _ (by omega)),rfl,rfl,rfl,rfl,trivial⟩))
  | refine aB rfl ?_ ?_
  | (refine aG rfl ?_;first | refine rb ?_ | refine ri ?_ | refine bX ?_ ?_ | refine cH ?_)
  | refine aD rfl ?_)
  all_goals first
   | rfl
   | exact fun h'=>h (hnm h').2.2
   | exact fun h'=>h (hnm h').2.1
   | exact fun h'=>h (hnm h').1
   | exact absurd (hmt (by assumption) (by assumption) h) (fun h'=>hm (h'▸lR h0 (by omega)))
   | exact absurd hm (fun h'=>hno h' (gI hB (by omega)))
theorem Hq (t:Tu)(l:List Pk)(hl:t.x.ms.length≤lim)(hs:mB l)(hP:∀ p∈l,PkOk p):FunOk PP W qG iB [Hg t,bT l] [bT (bY t l)]:=by
 refine FD (aZ ?_)
 have hsl:=hs.1
 unfold lim at hsl
 refine aX rfl (fun i:Int=>0≤i∧i≤l.length) (fun i=>[(6,.val (i64 i)),(1,.val (bT l)),(5,.val (bT (bY t (l.take i.toNat)))),(2,.val (Hg t))]) (fun i=>(l.length - i).toNat) 0 ⟨by omega,by omega⟩ ⟨rfl,rfl,gM (by unfold bY;split<;>rfl),rfl,trivial⟩ rfl ?_
 rintro i e ⟨h0,hN⟩
 have hle:(bY t (l.take i.toNat)).length≤i.toNat:=by
  unfold bY
  split
  ·exact Nat.le_trans (List.length_filter_le _ _) (by rw [List.length_take];omega)
  ·simp
 by_cases hi:i<l.length
 ·have hst:=wJ (fun p=>decide (eO p∈t.x.ms)) l h0 hi
  have hsm:=kY hs h0 hi
  have hh:=Ju (W:=W) t.x hl (ix l i) hsm (hP _ (lR h0 hi))
  (repeat' first
  | (refine run_ite rfl (fun h=>?_) (fun h=>?_)<;>(try simp (disch:=omega) only [zB,eqDs,bM,Nat.reduceAdd,aA] at h)<;>(try (exfalso;omega)))
  | refine aI rfl ?_
  | refine aJ rfl ?_
  | refine iT rfl (qS (ix l i) hsm) rfl ?_
  | (refine dB rfl hh rfl rfl ?_)
  | (refine aR rfl (Exists.intro (i+1) ⟨by omega,⟨by omega,by omega⟩,aW (aA _ (by omega)),rfl,?_,rfl,trivial⟩))
  | refine aB rfl ?_ ?_
  | (refine aG rfl ?_;first | refine rb ?_ | refine ri ?_ | refine bX ?_ ?_ | refine cH ?_)
  | refine aD rfl ?_)
  ·have h1:t.has=true:=by assumption
   refine gM ?_
   unfold bY
   rw [if_pos h1,if_pos h1,hst,if_pos (decide_eq_true h),List.map_append,DX,DY,IY,IZ]
   rfl
  ·have h1:t.has=true:=by assumption
   refine gM ?_
   unfold bY
   rw [if_pos h1,if_pos h1,hst,if_neg (by simp [h]),List.append_nil]
  ·refine gM ?_
   unfold bY
   rw [if_neg (by rw [h];simp),if_neg (by rw [h];simp)]
 ·have ht:l.take i.toNat=l:=List.take_of_length_le (by omega)
  rw [ht] at hle ⊢
  (repeat' first
  | (refine run_ite rfl (fun h=>?_) (fun h=>?_)<;>(try simp (disch:=omega) only [zB,eqDs,bM,Nat.reduceAdd,aA] at h)<;>(try (exfalso;omega)))
  | refine aI rfl ?_
  | refine aJ rfl ?_
  | refine aB rfl ?_ ?_
  | (refine aG rfl ?_;first | refine rb ?_ | refine ri ?_ | refine bX ?_ ?_ | refine cH ?_)
  | refine aD rfl ?_)
  rfl
theorem Bh (t:Tu)(s:List Pk)(hk:t.r.keys.length≤lim)(hl:t.x.ms.length≤lim)(hs:mB s):FunOk PP W jS dR [Hg t,bT s] [bT (eF t s)]:=by
 refine Bd (aZ ?_)
 by_cases hc:BP t∧nX s
 ·rw [eF,if_pos hc]
  have hP:∀ p∈s,PkOk p:=fun p hp=>by
   obtain ⟨j,j0,j1,rfl⟩:=sY hp
   exact (hc.2 j j0 j1).1
  (repeat' first
  | (refine run_ite rfl (fun h=>?_) (fun h=>?_)<;>(try simp (disch:=omega) only [zB,eqDs,bM,Nat.reduceAdd,aA] at h)<;>(try (exfalso;omega)))
  | refine aI rfl ?_
  | refine aJ rfl ?_
  | refine aH rfl (qT t hk hl) rfl ?_
  | refine aH rfl (qQ s hs) rfl ?_
  | refine aH rfl (HX s hs) rfl ?_
  | refine aH rfl (Hq t s hl hs hP) rfl ?_
  | refine aB rfl ?_ ?_
  | (refine aG rfl ?_;first | refine rb ?_ | refine ri ?_ | refine bX ?_ ?_ | refine cH ?_)
  | refine aD rfl ?_)
  ·exact absurd hc.1 h
  ·exact absurd hc.2 h
  ·rfl
 ·rw [eF,if_neg hc]
  (repeat' first
  | (refine run_ite rfl (fun h=>?_) (fun h=>?_)<;>(try simp (disch:=omega) only [zB,eqDs,bM,Nat.reduceAdd,aA] at h)<;>(try (exfalso;omega)))
  | refine aI rfl ?_
  | refine aJ rfl ?_
  | refine aH rfl (qT t hk hl) rfl ?_
  | refine aH rfl (qQ s hs) rfl ?_
  | refine aB rfl ?_ ?_
  | (refine aG rfl ?_;first | refine rb ?_ | refine ri ?_ | refine bX ?_ ?_ | refine cH ?_)
  | refine aD rfl ?_)
  ·rfl
  ·rfl
  ·exact absurd ⟨by assumption,h⟩ hc
theorem uW (t:Tu)(s:List Pk)(hk:t.r.keys.length≤lim)(hl:t.x.ms.length≤lim)(hs:mB s):FunOk PP W gN cP [Hg t,bT s] [bT (eF t s)]:=by
 refine yT (aZ ?_)
 (repeat' first
  | (refine run_ite rfl (fun h=>?_) (fun h=>?_)<;>(try simp (disch:=omega) only [zB,eqDs,bM,Nat.reduceAdd,aA] at h)<;>(try (exfalso;omega)))
  | refine aI rfl ?_
  | refine aJ rfl ?_
  | refine aH rfl (Fv t hk hl) rfl ?_
  | refine aH rfl (Fk s hs) rfl ?_
  | refine aB rfl ?_ ?_
  | (refine aG rfl ?_;first | refine rb ?_ | refine ri ?_ | refine bX ?_ ?_ | refine cH ?_)
  | refine aD rfl ?_)
 ·rw [eF,if_neg (fun h'=>h h'.1)]
  rfl
 ·rw [eF,if_neg (fun h'=>h h'.2)]
  rfl
 have hc:BP t∧nX s:=⟨by assumption,h⟩
 rw [eF,if_pos hc]
 clear h hc
 have hsl:=hs.1
 unfold lim at hsl
 refine aX rfl (fun i:Int=>0≤i∧i≤s.length) (fun i=>[(18,.val (i64 i)),(16,.val (bT s)),(17,.val (i64 (s.map ePk).length)),(5,.val (bT (bY t (s.take i.toNat)))),(2,.val (Hg t))]) (fun i=>(s.length - i).toNat) 0 ⟨by omega,by omega⟩ ⟨rfl,rfl,rfl,gM (by unfold bY;split<;>rfl),rfl,trivial⟩ rfl ?_
 rintro i e ⟨h0,hN⟩
 have hle:(bY t (s.take i.toNat)).length≤i.toNat:=by
  unfold bY
  split
  ·exact Nat.le_trans (List.length_filter_le _ _) (by rw [List.length_take];omega)
  ·simp
 by_cases hi:i<s.length
 ·have hst:=wJ (fun p=>decide (eO p∈t.x.ms)) s h0 hi
  have hsm:=kY hs h0 hi
  (repeat' first
  | (refine run_ite rfl (fun h=>?_) (fun h=>?_)<;>(try simp (disch:=omega) only [zB,eqDs,bM,Nat.reduceAdd,aA] at h)<;>(try (exfalso;omega)))
  | refine aI rfl ?_
  | refine aJ rfl ?_
  | refine iT rfl (Cp (ix s i) hsm) rfl ?_
  | refine iT rfl (Fu t.x.ms (eO (ix s i)) hl) rfl ?_
  | refine iT rfl (Fm (ix s i) hsm) rfl ?_
  | (refine aR rfl (Exists.intro (i+1) ⟨by omega,⟨by omega,by omega⟩,aW (aA _ (by omega)),rfl,rfl,?_,rfl,trivial⟩))
  | refine aB rfl ?_ ?_
  | (refine aG rfl ?_;first | refine rb ?_ | refine ri ?_ | refine bX ?_ ?_ | refine cH ?_)
  | refine aD rfl ?_)
  ·have h1:t.has=true:=by assumption
   refine gM ?_
   unfold bY
   rw [if_pos h1,if_pos h1,hst,if_pos (decide_eq_true h),List.map_append]
   rfl
  ·have h1:t.has=true:=by assumption
   refine gM ?_
   unfold bY
   rw [if_pos h1,if_pos h1,hst,if_neg (by simp [h]),List.append_nil]
  ·refine gM ?_
   unfold bY
   rw [if_neg (by rw [h];simp),if_neg (by rw [h];simp)]
 ·have ht:s.take i.toNat=s:=List.take_of_length_le (by omega)
  rw [ht] at hle ⊢
  (repeat' first
  | (refine run_ite rfl (fun h=>?_) (fun h=>?_)<;>(try simp (disch:=omega) only [zB,eqDs,bM,Nat.reduceAdd,aA] at h)<;>(try (exfalso;omega)))
  | refine aI rfl ?_
  | refine aJ rfl ?_
  | refine aB rfl ?_ ?_
  | (refine aG rfl ?_;first | refine rb ?_ | refine ri ?_ | refine bX ?_ ?_ | refine cH ?_)
  | refine aD rfl ?_)
  rfl
end
section
open Classical
open Go.RowKit

def vG:Nat:=Nat.max (Nat.max 0 1) 2+1
def vW:Wld where
 G:=vG
 P:=fun w=>vG≤w.heap.size∧(∃ m,w.cell? ⟨0,0,none⟩=some (.int .i64 m))∧(∃ v,w.cell? ⟨1,0,none⟩=some v∧QU v)∧∃ v,w.cell? ⟨2,0,none⟩=some v∧QU v
 size:=fun w h=>h.1
 keep:=fun own w w' hk hlow h=>by
  have key:∀ g,g<vG→∀ v,w.cell? ⟨g,0,none⟩=some v→w'.cell? ⟨g,0,none⟩=some v:=fun g hg v hc=>by
   have hn:own g=none:=by
    cases ho:own g with
    | none=>rfl
    | some i=>have:=hlow _ i ho;omega
   have hb:=hk.block g (by have:=h.1;omega) hn
   simp only [World.cell?,hb] at hc ⊢
   exact hc
  obtain ⟨h0,⟨m,hm⟩,⟨v,hv,hv'⟩,u,hu,hu'⟩:=h
  exact ⟨Nat.le_trans h0 hk.size,⟨m,key _ (by decide) _ hm⟩,⟨v,key _ (by decide) _ hv,hv'⟩,u,key _ (by decide) _ hu,hu'⟩
theorem RI {w:World}(h0:∃ m,w.cell? ⟨0,0,none⟩=some (.int .i64 m))(h1:∃ v,w.cell? ⟨1,0,none⟩=some v∧QU v)(h2:∃ v,w.cell? ⟨2,0,none⟩=some v∧QU v):vW.P w:=by
 refine ⟨?_,h0,h1,h2⟩
 obtain ⟨_,a0⟩:=h0
 obtain ⟨_,a1,_⟩:=h1
 obtain ⟨_,a2,_⟩:=h2
 exact Nat.succ_le_of_lt (Nat.max_lt.2 ⟨Nat.max_lt.2 ⟨eH a0,eH a1⟩,eH a2⟩)
theorem Jv {w w':World}{own:Own}{cx:Cx}(hw:WOk w own cx own w)(hb:Below w.heap.size w w'):WOk w own cx (fun _=>none) w':=
 ⟨⟨hb.os,hb.tape,hb.output,hb.size,fun g hg _=>hb.block g hg,fun g o hg _=>by simp only [World.cell?,hb.block g hg],fun g cur T h=>⟨cur,by rw [hb.block g (oG h)];exact h,rfl⟩⟩,fun g i h=>(by cases h),hw.n,hw.s1,hw.s2,fun g o _ hc=>(by obtain ⟨i,b,h1,_⟩:=hc;cases h1),fun g g' i j h=>(by cases h)⟩
theorem wL {w w':World}{own:Own}{cx:Cx}{sig:Sig}{vals rv:List Value}{outs:List (List D)}(hw:WOk w own cx own w)(hb:Below w.heap.size w w')(hbx:boxPs sig.ps 0=[])(hio:AP sig=none)
  (hlo:outs.length=sig.rs.length)(hlr:rv.length=sig.rs.length)(h:∀ (k:Nat) (p:PSh),sig.rs[k]? =some p→∃ d v c,outs[k]? =some [d]∧rv[k]? =some v∧p= .v false [c]∧aL w' cx (fun _=>none) k 0 c d v):∃ u own',Ending.returned (retV rv)= .returned u∧WOk w own cx own' w'∧lN w' cx own' sig outs vals u:=by
 refine ⟨retV rv,fun _=>none,rfl,Jv hw hb,?_⟩
 unfold lN
 rw [hio]
 refine ⟨by rw [hlo,hbx];rfl,rv,hlr,rfl,fun k p hp=>?_,fun i b hb=>by rw [hbx] at hb;simp at hb⟩
 obtain ⟨d,v,c,h1,h2,rfl,h3⟩:=h k p hp
 refine ⟨[v],?_,fun _=>rfl,?_,?_,fun i c' dd u hc hd hv=>?_⟩
 ·show (rv++_).getD k undef=v
  rw [hbx]
  simp [List.getD,h2]
 ·show [c].length=(outs.getD k []).length
  simp [List.getD,h1]
 ·show [v].length=(outs.getD k []).length
  simp [List.getD,h1]
 ·cases i with
  | succ i=>simp at hc
  | zero=>
   have e:envL outs k=[d]:=by simp [envL,List.getD,h1]
   rw [e] at hd
   simp only [List.getElem?_cons_zero,Option.some.injEq] at hc hd hv
   subst hc;subst hd;subst hv
   exact h3
theorem RJ {v:ByteArray}:Cell1 (.string v):=⟨fun c h=>(by cases h),fun c h=>(by cases h)⟩
theorem uX {w:World}{cx:Cx}{own:Own}{ins:List (List D)}{vals:List Value}{k:Nat}{s:ByteArray}{v:Value}(h:SlotOk w cx own (envL ins) (tvL vals) k (.v false [.s]))(hi:ins[k]? =some [.str s])(hv:vals[k]? =some v):v= .string s:=by
 obtain ⟨vs,e0,l0,a0⟩:=h
 match vs,l0 rfl with
 | [u],_=>
  have e1:v=u:=by
   have:tvL vals k=v:=by simp [tvL,List.getD,hv]
   rw [←this];exact e0
  subst e1
  have ei:envL ins k=[.str s]:=by simp [envL,List.getD,hi]
  obtain ⟨_,hsc⟩:=a0.2.2 0 .s (.str s) v rfl (by rw [ei];rfl) rfl
  have hsc:Scal (.str s) v:=hsc
  cases hsc
  rfl
theorem MZ (l:List UInt8)(hl:l.length≤2000000):FunOk PP vW pB gR [sT l,sT [32]] [RD (cF l)]:=by
 refine ⟨⟨Tryz.f95,Tryz.func95,by kernel_rfl,by kernel_rfl⟩,fun w own cx vals hP hw hlow hvl hil hinv=>?_⟩
 match vals,hvl with
 | [v0,v1],_=>
  have h0:=uX (hinv (0,.v false [.s]) (List.mem_cons_self ..)) rfl rfl
  have h1:=uX (hinv (1,.v false [.s]) (List.mem_cons_of_mem _ (List.mem_cons_self ..))) rfl rfl
  subst h0;subst h1
  obtain ⟨_,⟨m,hm⟩,_⟩:=hP
  refine (Tryz.strings_Split (bA l) (bA [32]) m w (by rw [bA_size];omega) hm (by decide)).mono ?_
  rintro e w' ⟨rfl,rfl⟩
  have hsp:Lib.splitB (bA [32]) 0 (Lib.countB (bA l) (bA [32])) (bA l)=(cF l).map bA:=Ho l
  have hcn:Lib.countB (bA l) (bA [32])+1=(cF l).length:=by
   have:=Lib.splitB_all (bA [32]) (by decide) 0 _ (bA l) rfl
   rw [hsp,List.length_map] at this
   omega
  rw [hsp,hcn]
  have hnew:(w.alloc (.cells ((((cF l).map bA).map Value.string).toArray) 9)).heap[w.heap.size]? =some (.cells ((((cF l).map bA).map Value.string).toArray) 9 (0,0)):=heap_alloc_new w _
  have hN:cx.N w.heap.size:=(hw.n _).2 (.inl (Nat.le_refl _))
  refine wL (rv:=[.slice (some ⟨w.heap.size,0,none⟩) (cF l).length (cF l).length]) hw (eE w _) rfl rfl rfl rfl (fun k p hp=>?_)
  cases k with
  | succ k=>simp at hp
  | zero=>
   have hp:PSh.v false [.r]=p:=by simpa using hp
   subst hp
   refine ⟨.sl ((cF l).map eW),_,.r,rfl,rfl,rfl,⟨fun c h=>(by cases h),fun c h=>(by cases h)⟩,?_⟩
   have hr:=Rep.sl (w:=w.alloc (.cells ((((cF l).map bA).map Value.string).toArray) 9)) (S:=RS cx (fun _=>none)) ((cF l).map eW) w.heap.size 0 1 (cF l).length (fun i _=> .string (bA (ix (cF l) i))) (by simp) (fun x hx=>by obtain ⟨y,_,rfl⟩:=List.mem_map.1 hx;rfl)
    (fun i x j d hx hj=>by
     rw [List.getElem?_map,Option.map_eq_some_iff] at hx
     obtain ⟨y,hy,rfl⟩:=hx
     cases j with
     | succ j=>simp at hj
     | zero=>
      have hi:=(List.getElem?_eq_some_iff.1 hy).1
      have hix:ix (cF l) (i:Int)=y:=by simp [ix,hy]
      simp only [World.cell?,hnew]
      simp [hy,hix])
    (fun i x j d hx hj=>⟨rfl,.inr hN⟩)
    (fun i x j d hx hj=>by
     rw [List.getElem?_map,Option.map_eq_some_iff] at hx
     obtain ⟨y,hy,rfl⟩:=hx
     cases j with
     | succ j=>simp at hj
     | zero=>
      have hix:ix (cF l) (i:Int)=y:=by simp [ix,hy]
      simp only [List.getElem?_cons_zero,Option.some.injEq] at hj
      subst hj
      rw [hix]
      exact .scal (.str _))
   simp only [List.length_map] at hr
   exact hr
theorem QH (w0:List UInt8)(a b:List UInt8)(t:Bool)(hl:w0.length≤2000000)(hc:Lib.cut w0 [58]=(a,b,t)):FunOk PP vW rZ jT [sT w0,sT [58]] [sT a,sT b,bo t]:=by
 refine ⟨⟨Tryz.f97,Tryz.func97,by kernel_rfl,by kernel_rfl⟩,fun w own cx vals hP hw hlow hvl hil hinv=>?_⟩
 match vals,hvl with
 | [v0,v1],_=>
  have h0:=uX (hinv (0,.v false [.s]) (List.mem_cons_self ..)) rfl rfl
  have h1:=uX (hinv (1,.v false [.s]) (List.mem_cons_of_mem _ (List.mem_cons_self ..))) rfl rfl
  subst h0;subst h1
  obtain ⟨_,⟨m,hm⟩,_⟩:=hP
  have e:Lib.cut (bA w0).data.toList (bA [58]).data.toList=(a,b,t):=hc
  refine (Tryz.strings_Cut (bA w0) (bA [58]) m w (by rw [bA_size];omega) hm).mono ?_
  rw [e]
  rintro en w' ⟨rfl,n,rfl⟩
  refine wL (rv:=[.string (bA a),.string (bA b),.bool t]) hw ⟨rfl,rfl,rfl,Nat.le_refl _,fun _ _=>rfl⟩ rfl rfl rfl rfl (fun k p hp=>?_)
  match k,hp with
  | 0,hp=>
   have hp:PSh.v false [.s]=p:=by simpa using hp
   subst hp
   exact ⟨_,_,.s,rfl,rfl,rfl,RJ,.str _⟩
  | 1,hp=>
   have hp:PSh.v false [.s]=p:=by simpa using hp
   subst hp
   exact ⟨_,_,.s,rfl,rfl,rfl,RJ,.str _⟩
  | 2,hp=>
   have hp:PSh.v false [.s]=p:=by simpa using hp
   subst hp
   exact ⟨_,_,.s,rfl,rfl,rfl,⟨fun c h=>(by cases h),fun c h=>(by cases h)⟩,.bool _⟩
  | k+3,hp=>simp at hp
theorem Dw (l:List UInt8)(hl:l.length≤2000000):FunOk PP vW iW dC [sT l] [i64 (MR l),[.bad]]:=by
 refine ⟨⟨Tryz.f98,Tryz.func98,by kernel_rfl,by kernel_rfl⟩,fun w own cx vals hP hw hlow hvl hil hinv=>?_⟩
 match vals,hvl with
 | [v0],_=>
  have h0:=uX (hinv (0,.v false [.s]) (List.mem_cons_self ..)) rfl rfl
  subst h0
  obtain ⟨_,_,⟨ev,hv,hev⟩,er,hr,her⟩:=hP
  have hd:(bA l).data.toList=l:=by simp [bA]
  have fin:∀ (n:Int) (v:Value) (w':World),Below w.heap.size w w'→Cell1 v→∃ u own',Ending.returned (retV [.int .i64 n,v])= .returned u∧WOk w own cx own' w'∧lN w' cx own' dC [i64 n,[.bad]] [Value.string (bA l)] u:=fun n v w' hb hc=>by
   refine wL (rv:=[.int .i64 n,v]) hw hb rfl rfl rfl rfl (fun k p hp=>?_)
   match k,hp with
   | 0,hp=>
    have hp:PSh.v false [.s]=p:=by simpa using hp
    subst hp
    exact ⟨_,_,.s,rfl,rfl,rfl,⟨fun c h=>(by cases h),fun c h=>(by cases h)⟩,.int _ _⟩
   | 1,hp=>
    have hp:PSh.v false [.x]=p:=by simpa using hp
    subst hp
    exact ⟨.bad,_,.x,rfl,rfl,rfl,hc,trivial⟩
   | k+2,hp=>simp at hp
  unfold MR
  cases hc:Lib.atoiAll l with
  | ok n=>
   refine (Tryz.strconv_Atoi_ok (bA l) (by rw [bA_size];omega) n (by rw [hd];exact hc) w).mono ?_
   rintro en w' ⟨rfl,ht⟩
   refine fin _ _ _ ?_ ⟨fun c h=>(by cases h),fun c h=>(by cases h)⟩
   rcases ht with rfl | ⟨t,rfl⟩
   ·exact Below.refl _ _
   ·exact Lib.bytesWorld_below _ _ _
  | «syntax»=>
   refine (Tryz.strconv_Atoi_syntax (bA l) (by rw [bA_size];omega) (by rw [hd];exact hc) ev w hv hev).mono ?_
   rintro en w' ⟨N,rfl,_,_,hb⟩
   exact fin _ _ _ hb ⟨fun c h=>(by cases h),fun c h=>(by cases h)⟩
  | range=>
   refine (Tryz.strconv_Atoi_range (bA l) (by rw [bA_size];omega) (by rw [hd];exact hc) er w hr her).mono ?_
   rintro en w' ⟨N,rfl,_,_,hb⟩
   rw [hd]
   exact fin _ _ _ hb ⟨fun c h=>(by cases h),fun c h=>(by cases h)⟩
end
section
open Classical
variable {W:Wld}

noncomputable def Dx (x:Ix)(l:List UInt8):Option Pk:=
 match yF l with
 | some p=>if eO p∈x.ms then some p else none
 | none=>none
theorem Jw {x:Ix}{l:List UInt8}(h:yF l=none):Dx x l=none:=by unfold Dx;rw [h]
theorem Il {x:Ix}{l:List UInt8}{p:Pk}(h:yF l=some p)(hm:eO p∈x.ms):Dx x l=some p:=by unfold Dx;rw [h];exact if_pos hm
theorem Fy {x:Ix}{l:List UInt8}{p:Pk}(h:yF l=some p)(hm:¬eO p∈x.ms):Dx x l=none:=by unfold Dx;rw [h];exact if_neg hm
theorem RK {p:Pk}(h:PkOk p):SmP p:=by
 have h1:=h.2.2.1.2
 have h2:=h.2.2.2.2
 exact ⟨by unfold lim;omega,by unfold lim;omega⟩
theorem QI {l:List UInt8}{p:Pk}(h:yF l=some p):PkOk p∧SmP p∧textM p=l:=⟨(BX h).1,RK (BX h).1,(BX h).2⟩
/-! The program. -/
theorem Ma (l:List UInt8):(bA l).extract (Int.toNat 1) ((bA l).size:Int).toNat=bA (l.drop 1):=by
 apply ByteArray.ext
 rw [ByteArray.data_extract,bA_size]
 have:l.tail.take (l.length - 1)=l.tail:=List.take_of_length_le (by simp)
 simp [bA,this]
theorem OR (w:List UInt8):(Lib.cut w [58]).1.length≤w.length∧(Lib.cut w [58]).2.1.length≤w.length:=by
 unfold Lib.cut
 split
 ·simp;omega
 ·simp
theorem Mb {l:List UInt8}(h:(bA l).toList=(⟨#[]⟩:ByteArray).toList):l=[]:=(tA (a:=l) (b:=[])).1 h
theorem yH (l:List UInt8)(h6:l.length≤2000000):FunOk PP vW kX eL [sT l] [i64 (GE l).a,i64 (GE l).b]:=by
 refine Dm (aZ ?_)
 have hsz:=bA_size l
 have hne:¬(bA l).toList=(⟨#[]⟩:ByteArray).toList→l≠[]∧1≤l.length:=fun h=>by
  have:l≠[]:=fun e=>h (by rw [e];rfl)
  exact ⟨this,List.length_pos_iff.2 this⟩
 have hb0:1≤l.length→Ol (bA l) 0=((ix l 0).toNat:Int):=fun h=>Dt l 0 (by show 0<_;omega)
 (repeat' first
  | (refine run_ite rfl (fun h=>?_) (fun h=>?_)<;>(try simp (disch:=omega) only [zB,eqDs,bM,Nat.reduceAdd,aA] at h)<;>(try (exfalso;omega)))
  | refine aI rfl ?_
  | refine aJ rfl ?_
  | (refine dB rfl (Dw (l.drop 1) (by rw [List.length_drop];omega)) (Hm (Ma l)) rfl ?_)
  | refine aB rfl ?_ ?_
  | (refine aG rfl ?_;first | refine rb ?_ | refine ri ?_ | refine bX ?_ ?_ | refine cH ?_)
  | refine aD rfl ?_)
 ·rw [GE,if_pos (Mb h)]
 ·rw [GE,if_pos (Mb h)]
 ·have:=(hne h).2;omega
 ·have:=(hne h).2;omega
 ·rw [GE,if_neg (hne h).1]
  exact aW (MY l 0 _ (hb0 (hne h).2))
 ·rw [GE,if_neg (hne h).1]
theorem GA (l:List UInt8)(h6:l.length≤2000000):FunOk PP vW kD eC [sT l] [ePk (QG (yF l)),bo (yF l).isSome]:=by
 refine Fa (aZ ?_)
 have hsz:=bA_size l
 by_cases h30:30<l.length
 ·rw [Fx h30]
  (repeat' first
  | (refine run_ite rfl (fun h=>?_) (fun h=>?_)<;>(try simp (disch:=omega) only [zB,eqDs,bM,Nat.reduceAdd,aA] at h)<;>(try (exfalso;omega)))
  | refine aI rfl ?_
  | refine aJ rfl ?_
  | refine aB rfl ?_ ?_
  | (refine aG rfl ?_;first | refine rb ?_ | refine ri ?_ | refine bX ?_ ?_ | refine cH ?_)
  | refine aD rfl ?_)
  all_goals rfl
 have hc:=MZ l h6
 have hws:=uT l [[]] (by simp)
 have hww:=Hn l [[]] 0 (fun w hw=>by simp at hw;simp [hw])
 simp only [List.length_cons,List.length_nil] at hws
 have hcd:l.foldl fQ [[]]=cF l:=rfl
 rw [hcd] at hws hww
 have hT:=RG l
 generalize cF l=ws at hc hws hww hT
 have hw0:(ix ws 0).length≤2000000:=by have:=hww _ (lR (xs:=ws) (i:=0) (by omega) (by omega));omega
 (repeat' first
  | (refine run_ite rfl (fun h=>?_) (fun h=>?_)<;>(try simp (disch:=omega) only [zB,eqDs,bM,Nat.reduceAdd,aA] at h)<;>(try (exfalso;omega)))
  | refine aI rfl ?_
  | refine aJ rfl ?_
  | refine aH rfl (hc) rfl ?_
  | (refine dB rfl (yH (ix ws 0) hw0) (Hm (OJ ws 0 (by show 0<_;omega))) rfl ?_)
  | refine aB rfl ?_ ?_
  | (refine aG rfl ?_;first | refine rb ?_ | refine ri ?_ | refine bX ?_ ?_ | refine cH ?_)
  | refine aD rfl ?_)
 have hdr:(((ws.map eW).take ((ws.map eW).length:Int).toNat).drop (Int.toNat 1))=(ws.drop 1).map eW:=by
  rw [List.take_of_length_le (by omega),List.map_drop]
  rfl
 have hdl:((ws.drop 1).map eW).length=ws.length - 1:=by rw [List.length_map,List.length_drop]
 have hdn:(ws.drop 1).length=ws.length - 1:=List.length_drop
 have hdw:∀ w∈ws.drop 1,w.length≤2000000:=fun w hw=>by have:=hww w (List.mem_of_mem_drop hw);omega
 have hst:=fun i h=>MS ws (i:=i) h
 have hrl:=fun n=>Ik ws n
 have hr0:Cr ws 0=⟨(GE (ix ws 0)).a,(GE (ix ws 0)).b,[],[]⟩:=rfl
 rw [←hdn] at hT
 have hn1:(ws.drop 1).length≤2000001:=by omega
 generalize Cr ws=R at hT hst hrl hr0
 generalize ws.drop 1=vs at hdr hdl hdw hst hT hn1
 refine aX rfl (fun i:Int=>0≤i∧i≤vs.length) (fun i=>[(35,.val (i64 i)),(33,.val (RD vs)),(34,.val (i64 vs.length)),(5,.val (ePk (R i.toNat))),(0,.val (sT l)),(2,.val [.int .i64 0,.int .i64 0,.sl [],.sl []])]) (fun i=>(vs.length - i).toNat) 0 ⟨by omega,by omega⟩ ⟨rfl,gM hdr,aW (by rw [hdr,List.length_map]),by show _=ePk (R 0);rw [hr0];rfl,rfl,rfl,trivial⟩ rfl ?_
 rintro i e ⟨h0,hN⟩
 have hri:=hrl i.toNat
 by_cases hi:i<vs.length
 ·have hcs:cS (vs.map eW) i 0=bA (ix vs i):=OJ _ i (by omega)
  have hlw:(ix vs i).length≤2000000:=hdw _ (lR h0 hi)
  have hst:=hst i h0
  generalize R i.toNat=p at hri hst
  obtain ⟨a,b,t,hcut⟩:∃ a b t,Lib.cut (ix vs i) [58]=(a,b,t):=⟨_,_,_,rfl⟩
  have hla:a.length≤2000000∧b.length≤2000000:=by
   have h1:=OR (ix vs i)
   rw [hcut] at h1
   exact ⟨Nat.le_trans h1.1 hlw,Nat.le_trans h1.2 hlw⟩
  have hk:=QH (ix vs i) a b t hlw hcut
  have hst':t=true→R (i+1).toNat=⟨p.name,p.ver,p.files++[⟨MR a,MR b⟩],p.deps⟩:=fun h=>by rw [hst,BW,hcut];exact if_pos h
  have hst2:¬t=true→R (i+1).toNat=⟨p.name,p.ver,p.files,p.deps++[GE (ix vs i)]⟩:=fun h=>by rw [hst,BW,hcut];exact if_neg h
  (repeat' first
  | (refine run_ite rfl (fun h=>?_) (fun h=>?_)<;>(try simp (disch:=omega) only [zB,eqDs,bM,Nat.reduceAdd,aA] at h)<;>(try (exfalso;omega)))
  | refine aI rfl ?_
  | refine aJ rfl ?_
  | (refine aR rfl (Exists.intro (i+1) ⟨by omega,⟨by omega,by omega⟩,aW (aA _ (by omega)),rfl,rfl,?_,rfl,rfl,trivial⟩))
  | (refine dB rfl hk (bX (Ig hcs) rfl) rfl ?_)
  | (refine dB rfl (Dw a hla.1) rfl rfl ?_)
  | (refine dB rfl (Dw b hla.2) rfl rfl ?_)
  | (refine dB rfl (yH (ix vs i) hlw) (Hm hcs) rfl ?_)
  | refine aB rfl ?_ ?_
  | (refine aG rfl ?_;first | refine rb ?_ | refine ri ?_ | refine bX ?_ ?_ | refine cH ?_)
  | refine aD rfl ?_)
  ·rw [hst' h]
   exact MW rfl rfl
  ·rw [hst2 (by rw [h];decide)]
   exact MX rfl rfl
 ·have hi':i=vs.length:=by omega
  subst hi'
  have hr:R (vs.length:Int).toNat=R vs.length:=rfl
  rw [hr] at hri ⊢
  generalize R vs.length=p at hri hT
  have hs:SmP p:=⟨by unfold lim;omega,by unfold lim;omega⟩
  have h1:¬(bA (textM p)).toList=(bA l).toList→yF l=none:=fun h=>by rw [hT,if_neg (fun h'=>h (tA.2 h'.2))]
  have h2:¬PkOk p→yF l=none:=fun h=>by rw [hT,if_neg (fun h'=>h h'.1)]
  have h3:(bA (textM p)).toList=(bA l).toList→PkOk p→yF l=some p:=fun h h'=>by rw [hT,if_pos ⟨h',tA.1 h⟩]
  (repeat' first
  | (refine run_ite rfl (fun h=>?_) (fun h=>?_)<;>(try simp (disch:=omega) only [zB,eqDs,bM,Nat.reduceAdd,aA] at h)<;>(try (exfalso;omega)))
  | refine aI rfl ?_
  | refine aJ rfl ?_
  | refine aH rfl (wG p hs) rfl ?_
  | refine aH rfl (mX p hs) rfl ?_
  | refine aB rfl ?_ ?_
  | (refine aG rfl ?_;first | refine rb ?_ | refine ri ?_ | refine bX ?_ ?_ | refine cH ?_)
  | refine aD rfl ?_)
  all_goals first
   | (rw [h2 (by assumption)];rfl)
   | (rw [h1 (by assumption)];rfl)
   | (rw [h3 (by assumption) (by assumption)];rfl)
noncomputable def yX (x:Ix)(l:List UInt8):Option Pk:=if Hi x then Dx x l else none
theorem Dy (x:Ix)(hl:x.ms.length≤lim)(l:List UInt8)(h6:l.length≤2000000):FunOk PP vW iV dO [BZ x,sT l] [ePk (QG (yX x l)),bo (yX x l).isSome]:=by
 refine Dh (aZ ?_)
 have hg:=GA l h6
 cases hr:yF l with
 | none=>
  have hn:yX x l=none:=by unfold yX;split;exact Jw hr;rfl
  rw [hn]
  have hg:FunOk PP vW kD eC [sT l] [ePk QV,bo false]:=by rw [hr] at hg;exact hg
  (repeat' first
  | (refine run_ite rfl (fun h=>?_) (fun h=>?_)<;>(try simp (disch:=omega) only [zB,eqDs,bM,Nat.reduceAdd,aA] at h)<;>(try (exfalso;omega)))
  | refine aI rfl ?_
  | refine aJ rfl ?_
  | (refine dB rfl hg rfl rfl ?_)
  | refine aB rfl ?_ ?_
  | (refine aG rfl ?_;first | refine rb ?_ | refine ri ?_ | refine bX ?_ ?_ | refine cH ?_)
  | refine aD rfl ?_)
  all_goals rfl
 | some p=>
  obtain ⟨hP,hs,ht⟩:=QI hr
  have hg:FunOk PP vW kD eC [sT l] [ePk p,bo true]:=by rw [hr] at hg;exact hg
  have h1:¬Hi x→yX x l=none:=fun h=>if_neg h
  have h2:¬eO p∈x.ms→yX x l=none:=fun h=>by unfold yX;split;exact Fy hr h;rfl
  have h3:Hi x→eO p∈x.ms→yX x l=some p:=fun h h'=>by rw [yX,if_pos h];exact Il hr h'
  (repeat' first
  | (refine run_ite rfl (fun h=>?_) (fun h=>?_)<;>(try simp (disch:=omega) only [zB,eqDs,bM,Nat.reduceAdd,aA] at h)<;>(try (exfalso;omega)))
  | refine aI rfl ?_
  | refine aJ rfl ?_
  | refine aH rfl (yE x hl) rfl ?_
  | refine aH rfl (Cp p hs) rfl ?_
  | refine aH rfl (Fu x.ms (eO p) hl) rfl ?_
  | (refine dB rfl hg rfl rfl ?_)
  | refine aB rfl ?_ ?_
  | (refine aG rfl ?_;first | refine rb ?_ | refine ri ?_ | refine bX ?_ ?_ | refine cH ?_)
  | refine aD rfl ?_)
  all_goals first
   | (rw [h1 (by assumption)];rfl)
   | (rw [h2 (by assumption)];rfl)
   | (rw [h3 (by assumption) (by assumption)];rfl)
end
section
open Classical
variable {W:Wld}

theorem OS {s:List Pk}(hs:nX s){p:Pk}(h:p∈s):PkOk p:=by
 obtain ⟨j,j0,j1,rfl⟩:=sY h
 exact (hs j j0 j1).1
theorem Ct {x:Ix}{p:Pk}(hp:PkOk p):Dx x (textM p)=if eO p∈x.ms then some p else none:=by
 by_cases h:eO p∈x.ms
 ·rw [if_pos h];exact Il (qU hp) h
 ·rw [if_neg h];exact Fy (qU hp) h
theorem Mc {t:Tu}(ht:BP t)(hh:t.has=true)(l:List UInt8):yX t.x l=Dx t.x l:=if_pos (by have:=ht.2;rw [if_pos hh] at this;exact this)
theorem QJ {t:Tu}(ht:BP t)(hh:¬t.has=true)(l:List UInt8):yX t.x l=none:=if_neg fun h=>by
 have h2:=ht.2
 rw [if_neg hh] at h2
 have:=h.1
 omega

end
section
open Classical

theorem Jx {t:Tu}{s:List Pk}(hc:BP t∧nX s):eF t (eF t s)=eF t s:=by
 have hk:∀ x,(bY t s=x)→nX x:=fun x e=>by
  subst e
  unfold bY
  split
  ·exact MJ (List.Pairwise.filter _ (OG hc.2)) fun q hq=>OS hc.2 (List.mem_filter.1 hq).1
  ·exact fun j j0 j1=>by simp at j1;omega
 have h1:eF t s=bY t s:=by rw [eF,if_pos hc]
 rw [h1,eF,if_pos ⟨hc.1,hk _ rfl⟩]
 unfold bY
 by_cases h:t.has=true
 ·rw [if_pos h,if_pos h,List.filter_filter]
  simp
 ·rw [if_neg h,if_neg h]
theorem Mj (b:List Int)(hb:∀ x∈b,0≤x∧x≤255):FunOk PP vW n_l_FnTrimJust jO [RV b] [bo true]:=by
 refine wC (aZ ?_)
 (repeat' first
  | (refine run_ite rfl (fun h=>?_) (fun h=>?_)<;>(try simp (disch:=omega) only [zB,eqDs,bM,Nat.reduceAdd,aA] at h)<;>(try (exfalso;omega)))
  | refine aI rfl ?_
  | refine aJ rfl ?_
  | refine aB rfl ?_ ?_
  | (refine aG rfl ?_;first | refine rb ?_ | refine ri ?_ | refine bX ?_ ?_ | refine cH ?_)
  | refine aD rfl ?_)
 ·rfl
 have hc:MI b:=⟨by omega,hb⟩
 refine aV rfl (Fw b hc) rfl (fun outs hG=>?_)
 obtain ⟨t,s,rfl,ht,hs⟩:=hG
 refine ⟨[Hg t,bT s],[],rfl,rfl,rfl,?_⟩
 have hk:t.r.keys.length≤lim:=by have:=ht.1;unfold lim;omega
 have hl:t.x.ms.length≤lim:=by have:=ht.2;unfold lim;omega
 have hf:∀ P:Pk→Bool,mB (s.filter P):=fun P=>⟨Nat.le_trans (List.length_filter_le _ _) hs.1,fun x hx=>hs.2 x (List.mem_filter.1 hx).1⟩
 have hR:mB (eF t s):=by
  unfold eF bY
  split
  ·split
   ·exact hf _
   ·exact ⟨by simp,by simp⟩
  ·exact ⟨by simp,by simp⟩
 (repeat' first
  | (refine run_ite rfl (fun h=>?_) (fun h=>?_)<;>(try simp (disch:=omega) only [zB,eqDs,bM,Nat.reduceAdd,aA] at h)<;>(try (exfalso;omega)))
  | refine aI rfl ?_
  | refine aJ rfl ?_
  | refine aH rfl (uW t s hk hl hs) rfl ?_
  | refine aH rfl (Bh t s hk hl hs) rfl ?_
  | refine aH rfl (Ch (eF t s) (eF t s) hR) rfl ?_
  | refine aH rfl (qT t hk hl) rfl ?_
  | refine aH rfl (qQ s hs) rfl ?_
  | refine aB rfl ?_ ?_
  | (refine aG rfl ?_;first | refine rb ?_ | refine ri ?_ | refine bX ?_ ?_ | refine cH ?_)
  | refine aD rfl ?_)
 ·exact decide_eq_true rfl
 ·exact decide_eq_true rfl
 ·exact decide_eq_true rfl
 have hC:BP t∧nX s:=⟨by assumption,h⟩
 clear h
 have hK:eF t s=bY t s:=by rw [eF,if_pos hC]
 have hT2:FunOk PP vW gN cP [Hg t,bT (eF t s)] [bT (eF t s)]:=by
  have:=uW (W:=vW) t (eF t s) hk hl hR
  rw [Jx hC] at this
  exact this
 have hno:¬t.has=true→eF t s=[]:=fun h=>by rw [hK,bY,if_neg h]
 have hsl:=hs.1
 unfold lim at hsl
 have hpre:∀ i:Int,0≤i→i<s.length→t.has=true→eO (ix s i)∈t.x.ms→((bY t (s.take i.toNat)).length:Int)<(eF t s).length∧ix (eF t s) (bY t (s.take i.toNat)).length=ix s i:=fun i h0 h1 h2 h3=>by
  rw [hK]
  unfold bY
  rw [if_pos h2,if_pos h2]
  have e:s=s.take i.toNat++ix s i::s.drop (i.toNat+1):=by
   have hlt:i.toNat<s.length:=by omega
   have:ix s i=s[i.toNat]:=by simp [ix,hlt]
   rw [this,←List.drop_eq_getElem_cons hlt,List.take_append_drop]
  have e2:s.filter (fun p=>decide (eO p∈t.x.ms))=(s.take i.toNat).filter (fun p=>decide (eO p∈t.x.ms))++ix s i::(s.drop (i.toNat+1)).filter (fun p=>decide (eO p∈t.x.ms)):=by
   conv=>lhs;rw [e]
   rw [List.filter_append,List.filter_cons,if_pos (decide_eq_true h3)]
  rw [e2]
  refine ⟨by simp;omega,?_⟩
  simp [ix]
 have hstep:=fun (i:Int) (h0:0≤i) (h1:i<s.length)=>wJ (fun p=>decide (eO p∈t.x.ms)) s h0 h1
 generalize hKK:eF t s=K at *
 have hKl:=hR.1
 unfold lim at hKl
 have hkl:∀ i:Int,(bY t (s.take i.toNat)).length≤s.length:=fun i=>by
  unfold bY
  split
  ·exact Nat.le_trans (List.length_filter_le _ _) (by rw [List.length_take];omega)
  ·simp
 refine aX rfl (fun i:Int=>0≤i∧i≤s.length) (fun i=>[(7,.val (i64 i)),(6,.val (i64 (bY t (s.take i.toNat)).length)),(5,.val (bT K)),(4,.val (bT s)),(3,.val (Hg t))]) (fun i=>(s.length - i).toNat) 0 ⟨by omega,by omega⟩ ⟨rfl,aW (by unfold bY;split<;>rfl),rfl,rfl,rfl,trivial⟩ rfl ?_
 rintro i e ⟨h0,hN⟩
 have hkl:=hkl i
 by_cases hi:i<s.length
 ·have hsm:=kY hs h0 hi
  have hPk:=(hC.2 i h0 hi).1
  have hg:=Dy t.x hl (textM (ix s i)) (by have:=lI (ix s i);omega)
  by_cases hm:t.has=true∧eO (ix s i)∈t.x.ms
  ·rw [Mc hC.1 hm.1,Ct hPk,if_pos hm.2] at hg
   have hg:FunOk PP vW iV dO [BZ t.x,sT (textM (ix s i))] [ePk (ix s i),bo true]:=hg
   obtain ⟨p1,p2⟩:=hpre i h0 hi hm.1 hm.2
   have hst:(bY t (s.take (i+1).toNat)).length=(bY t (s.take i.toNat)).length+1:=by
    have:=hstep i h0 hi
    unfold bY
    rw [if_pos hm.1,if_pos hm.1,this,if_pos (decide_eq_true hm.2)]
    simp
   generalize (bY t (s.take i.toNat)).length=k at hkl p1 p2 hst ⊢
   (repeat' first
  | (refine run_ite rfl (fun h=>?_) (fun h=>?_)<;>(try simp (disch:=omega) only [zB,eqDs,bM,Nat.reduceAdd,aA] at h)<;>(try (exfalso;omega)))
  | refine aI rfl ?_
  | refine aJ rfl ?_
  | refine iT rfl (mX (ix s i) hsm) rfl ?_
  | (refine dB rfl hg (bX rfl (by first | rfl | skip)) rfl ?_)
  | refine iT rfl (Fj (ix K k) (ix s i) (kY hR (by omega) p1)) rfl ?_
  | (refine aR rfl (Exists.intro (i+1) ⟨by omega,⟨by omega,by omega⟩,aW (aA _ (by omega)),?_,rfl,rfl,rfl,trivial⟩))
  | refine aB rfl ?_ ?_
  | (refine aG rfl ?_;first | refine rb ?_ | refine ri ?_ | refine bX ?_ ?_ | refine cH ?_)
  | refine aD rfl ?_)
   all_goals first
    | exact absurd p2 (by assumption)
    | exact absurd (hm.1.symm.trans h) (by decide)
    | (rw [hst];exact aW (by rw [aA _ (by omega)];omega))
  ·have hst:(bY t (s.take (i+1).toNat)).length=(bY t (s.take i.toNat)).length:=by
    have:=hstep i h0 hi
    unfold bY
    by_cases h2:t.has=true
    ·rw [if_pos h2,if_pos h2,this,if_neg (by rw [decide_eq_true_eq];exact fun h3=>hm ⟨h2,h3⟩),List.append_nil]
    ·rw [if_neg h2,if_neg h2]
   have hn:yX t.x (textM (ix s i))=none:=by
    by_cases h2:t.has=true
    ·rw [Mc hC.1 h2,Ct hPk,if_neg (fun h3=>hm ⟨h2,h3⟩)]
    ·exact QJ hC.1 h2 _
   rw [hn] at hg
   have hg:FunOk PP vW iV dO [BZ t.x,sT (textM (ix s i))] [ePk QV,bo false]:=hg
   generalize (bY t (s.take i.toNat)).length=k at hkl hst ⊢
   (repeat' first
  | (refine run_ite rfl (fun h=>?_) (fun h=>?_)<;>(try simp (disch:=omega) only [zB,eqDs,bM,Nat.reduceAdd,aA] at h)<;>(try (exfalso;omega)))
  | refine aI rfl ?_
  | refine aJ rfl ?_
  | refine iT rfl (mX (ix s i) hsm) rfl ?_
  | (refine dB rfl hg (bX rfl (by first | rfl | skip)) rfl ?_)
  | (refine aR rfl (Exists.intro (i+1) ⟨by omega,⟨by omega,by omega⟩,aW (aA _ (by omega)),?_,rfl,rfl,rfl,trivial⟩))
  | refine aB rfl ?_ ?_
  | (refine aG rfl ?_;first | refine rb ?_ | refine ri ?_ | refine bX ?_ ?_ | refine cH ?_)
  | refine aD rfl ?_)
   all_goals (rw [hst];rfl)
 ·have hts:s.take i.toNat=s:=List.take_of_length_le (by omega)
  have hkk:((bY t (s.take i.toNat)).length:Int)=K.length:=by rw [hts,←hK]
  generalize (bY t (s.take i.toNat)).length=k at hkl hkk ⊢
  (repeat' first
  | (refine run_ite rfl (fun h=>?_) (fun h=>?_)<;>(try simp (disch:=omega) only [zB,eqDs,bM,Nat.reduceAdd,aA] at h)<;>(try (exfalso;omega)))
  | refine aI rfl ?_
  | refine aJ rfl ?_
  | refine aH rfl (hT2) rfl ?_
  | refine aH rfl (Ch K K hR) rfl ?_
  | refine aB rfl ?_ ?_
  | (refine aG rfl ?_;first | refine rb ?_ | refine ri ?_ | refine bX ?_ ?_ | refine cH ?_)
  | refine aD rfl ?_)
  all_goals first
   | rfl
   | exact absurd hkk (by assumption)
   | exact absurd trivial (by assumption)
   | (have:=hno (by rw [h];decide);subst this;rfl)
end
section
open Go.RowKit

def Ro:List UInt8:=[105,110,118,97,108,105,100,32,115,121,110,116,97,120]
def Rp:List UInt8:=[118,97,108,117,101,32,111,117,116,32,111,102,32,114,97,110,103,101]
def QK (t:List UInt8):DataW Unit:= .iface "*errors.errorString" (.ptr (.agg [.lit (.string t)]))
theorem GB:"*" ++"errors.errorString" ="*errors.errorString" :=by decide
theorem OT (u:TypeId)(h:Tryz.prog.typeName? 3 u=some "*errors.errorString"):u=217:=
 typeName_ptr_named (nm:="errors.errorString") (by rw [GB];kernel_rfl) (by kernel_rfl) (by decide) u (by rw [GB];exact h)
theorem Md {laid:List (String×DataW Unit)}{W:World}{n:String}{t:List UInt8}{g:Nat}(hL:laidMetH Tryz.prog laid W)(hf:(laid.filter fun x=>x.2.handleName?.isNone).filter (fun x=>x.1==n)=[(n,QK t)])
  (hg:Tryz.prog.globalNamed n=some g)(ht:(Tryz.prog.globals[g]?).map (·.type)=some 92):∃ v,W.cell? ⟨g,0,none⟩=some v∧QU v:=by
 exact No hL hf hg ht Tryz.underlying92 OT Tryz.underlying217 Tryz.underlying219 rfl rfl Tryz.underlying9 (by kernel_rfl) (by kernel_rfl)
theorem Rq {laid:List (String×DataW Unit)}{W:World}(hL:laidMetH Tryz.prog laid W)(hsh:W.ShapedOpen Tryz.prog)
  (h1:(laid.filter fun x=>x.2.handleName?.isNone).filter (fun x=>x.1=="strconv.ErrSyntax")=[("strconv.ErrSyntax",QK Ro)])
  (h2:(laid.filter fun x=>x.2.handleName?.isNone).filter (fun x=>x.1=="strconv.ErrRange")=[("strconv.ErrRange",QK Rp)]):vW.P W:=
 RI (cell_of_shapedOpen_int (t:=3) (zero:=#[.int .i64 0]) hsh (of_decide_eq_true (by kernel_rfl)) (by kernel_rfl) rfl (by kernel_rfl) (by kernel_rfl) (by kernel_rfl))
  (Md hL h1 (by kernel_rfl) (by kernel_rfl)) (Md hL h2 (by kernel_rfl) (by kernel_rfl))
end
end V
end Go.Proofs.YtmgpamcpdblckaaGreatDoor
