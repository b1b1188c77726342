/-
Part 5 of the proof of the claimed statement (its last part holds the theorem, and says what is proved). Conditions: none.
-/
import Derived.Test.YtmgpamcpdblckaaGreatDoorM4
import Derived.LoopTactic
import Derived.StillTailTactics
import Derived.Test.YtmgpamcpdblckaaGreatDoorChecked
import Derived.Tactics
import Derived.Tactics2
import Derived.WalkKit
import Derived.RowKit3
import Derived.RegionTactic
import Derived.Lib.AppendZerosOnto
import Derived.Laws.NewBlocks
import Derived.Shelf.Spec.SlicesInsert
import Derived.Lib.SplitLaws
import Derived.Lib.IndexBytes
import Derived.Lib.IndexMore
import Derived.Lib.Atoi
import Derived.Lib.AtoiAll
set_option linter.all false
set_option maxRecDepth 100000
/-
The text of a package, as the program writes it.
-/
namespace Go.Proofs.YtmgpamcpdblckaaGreatDoor
open Go.Shelf Go.RowKit
open Classical
set_option maxRecDepth 100000
set_option maxHeartbeats 4000000

theorem vV {w w1:World}{d:V.D}{v:Value}(h:V.Rep w (V.InW w) d v)(hb:Below w.heap.size w w1):V.Rep w1 (V.InW w1) d v:=
 (V.inW_below h hb (Nat.le_refl _)).mono (fun _ _ _=>rfl) (fun g cur T h=>⟨cur,h,rfl⟩) (fun g o h=>Nat.lt_of_lt_of_le h hb.size)
theorem eH (w:World)(o:Obj):Below w.heap.size w (w.alloc o):=(Below.refl _ w).alloc (Nat.le_refl _) o
theorem iC {B:Nat}{w w':World}(h:Below B w w')(g o:Nat)(hg:g<B):w'.cell? ⟨g,o,none⟩=w.cell? ⟨g,o,none⟩:=by
 simp only [World.cell?,h.block g hg]
theorem CT (w:World)(x:Obj)(g o:Nat)(hg:g<w.heap.size):(w.alloc x).cell? ⟨g,o,none⟩=w.cell? ⟨g,o,none⟩:=iC (eH w x) g o hg
abbrev SZ (b:Nat)(l:List UInt8)(w:World):Prop:=Lib.IsBuilderF 90 5 b b (Lib.byteCells l) w
theorem rU (l:List UInt8):Lib.strCells (V.bA l)=Lib.byteCells l:=by
 simp [Lib.strCells,Lib.byteCells,V.bA]
theorem Gx (w:World)(cs:Array Value)(T:TypeId)(j:Nat):(w.alloc (.cells cs T)).drew.cell? ⟨w.heap.size,j,none⟩=cs[j]? :=by
 have:(w.alloc (.cells cs T)).drew.heap[w.heap.size]? =some (.cells cs T (0,0)):=heap_alloc_new w _
 simp only [World.cell?,this]
 rfl
theorem In {P:Program}{id:Nat}{Q:Exit→Act→World→Prop}{a:Act}{w:World}{l:List Oper}(n:Nat)(hm:P.follows .mixedOrders=true)(hB:Region.lexTailB .any l.toArray n=true)(w5:World)(h5:w5=w.drew)
  (h:wpStill P l.toArray w5 (fun a'=>wpList P l.toArray Q (l.drop n) a' w5) (l.take n) a):(Code.region id l.toArray true).wp P Q a w:=by
 subst h5
 exact wp_region_still_tail n hm hB h
theorem Io {B:Nat}{w w':World}(h:Below B w w'):Below B w w'.drew:=⟨h.os,h.tape,h.output,h.size,h.block⟩
theorem vX {α:Type}(f:α→List UInt8)(n:Nat)(hf:∀ x,(f x).length=n):∀ xs:List α,(xs.flatMap f).length=n*xs.length
 | []=>by simp
 | x::r=>by
  have:=vX f n hf r
  simp [hf,this,Nat.mul_add,Nat.add_comm]
theorem Ip {p:V.Pk}(hP:V.PkOk p)(k:Nat)(hk:k≤p.files.length):(V.nmT p.name p.ver++(p.files.take k).flatMap V.fT).length≤10:=by
 have h1:(p.files.length:Int)≤2:=hP.2.2.1.2
 rw [List.length_append,vX V.fT 4 (fun _=>rfl),List.length_take]
 simp only [V.nmT,List.length_cons,List.length_nil]
 omega
theorem Gy {p:V.Pk}(hP:V.PkOk p)(k:Nat)(hk:k≤p.deps.length):(V.nmT p.name p.ver++p.files.flatMap V.fT++(p.deps.take k).flatMap V.dT).length≤16:=by
 have h1:(p.files.length:Int)≤2:=hP.2.2.1.2
 have h2:(p.deps.length:Int)≤2:=hP.2.2.2.2
 rw [List.length_append,List.length_append,vX V.fT 4 (fun _=>rfl),vX V.dT 3 (fun _=>rfl),List.length_take]
 simp only [V.nmT,List.length_cons,List.length_nil]
 omega
theorem Dr {α:Type}[Inhabited α](f:α→List UInt8)(xs:List α)(k:Nat)(hk:k<xs.length):(xs.take (k+1)).flatMap f=(xs.take k).flatMap f++f (V.ix xs k):=by
 have:xs.take (k+1)=xs.take k++[V.ix xs k]:=by
  rw [List.take_add_one]
  simp [V.ix,hk]
 rw [this]
 simp
theorem Ey (p:V.Pk)(hs:V.SmP p)(v1 v2:Value)(w:World)(h1:V.Rep w (V.InW w) (.sl (p.files.map V.eP2)) v1)(h2:V.Rep w (V.InW w) (.sl (p.deps.map V.eP2)) v2):
  Calls Tryz.prog 16 #[.agg #[.int .i64 p.name,.int .i64 p.ver,v1,v2]] w fun e w'=>e= .returned (.string (V.bA (V.textM p)))∧Below w.heap.size w w':=by
 have mixed:Tryz.prog.follows .mixedOrders=true:=V.mixed
 go_enter Tryz.func16,Tryz.ntmps16
 go_wp2_with (go_at_call 51;refine (V.pkgOk_call p hs v1 v2 _ (vV h1 (eH w _)) (vV h2 (eH w _))).mono ?_)
 rintro e w2 ⟨rfl,hb2⟩
 have hsz2:w.heap.size<w2.heap.size:=by
  have:=hb2.size
  simp at this
  omega
 have hb0:Below w.heap.size w w2:=(eH w _).trans (hb2.mono (by simp))
 have hbx:w2.heap[w.heap.size]? =some (.cells #[.int .i64 p.name,.int .i64 p.ver,v1,v2] 41 (0,0)):=by
  rw [hb2.block _ (by simp)]
  exact heap_alloc_new w _
 have r1:=vV h1 hb0
 have r2:=vV h2 hb0
 by_cases hP:V.PkOk p
 ·have hd:decide (V.PkOk p)=true:=decide_eq_true hP
  rw [hd]
  obtain ⟨A1,cap1,rfl,_,row1⟩:=V.rep_row r1
  obtain ⟨A2,cap2,rfl,_,row2⟩:=V.rep_row r2
  clear hb2 h1 h2 r1 r2
  have c0:∀ x,(w2.alloc x).cell? ⟨w.heap.size,0,none⟩=some (.int .i64 p.name):=fun x=>by rw [CT w2 x _ _ hsz2];simp only [World.cell?,hbx];rfl
  have c1:∀ x,(w2.alloc x).cell? ⟨w.heap.size,1,none⟩=some (.int .i64 p.ver):=fun x=>by rw [CT w2 x _ _ hsz2];simp only [World.cell?,hbx];rfl
  go_wp2_with (go_at_call 53;refine (CR p.name p.ver hP.1 hP.2.1 _).mono ?_;rintro e w' ⟨rfl,rfl⟩)
  refine (nW w2.heap.size w2.heap.size [] (V.bA (V.nmT p.name p.ver)) _ (Lib.IsBuilderF.of (Lib.fresh_isBuilder 90 5 w2)) (by rw [V.bA_size];simp [V.nmT]) (by simp)).mono ?_
  rintro e w3 ⟨rfl,hB3,hbl3,_⟩
  have hI3:SZ w2.heap.size (V.nmT p.name p.ver) w3:= .inr (by rw [←rU];simpa using hB3)
  have hb3:Below w2.heap.size w2 w3:=(eH w2 _).trans hbl3
  clear c0 c1 hB3 hbl3
  have c2:w3.cell? ⟨w.heap.size,2,none⟩=some (.slice A1 p.files.length cap1):=by rw [iC hb3 _ _ hsz2];simp only [World.cell?,hbx];rfl
  go_wp2
  go_loopw [20] (fun i wr=>∃ k:Nat,i= .int .i64 k∧k≤p.files.length∧SZ w2.heap.size (V.nmT p.name p.ver++(p.files.take k).flatMap V.fT) wr∧Below w2.heap.size w2 wr) (fun i wr=>p.files.length - (intOf i).toNat)
  case atStart=>exact ⟨0,rfl,by omega,by simpa using hI3,hb3⟩
  case round=>
   obtain ⟨k,rfl,hk,hI,hbw⟩:=hrel
   clear c2
   by_cases hlt:k<p.files.length
   ·obtain ⟨g,off,rfl,hcap,hg,x0,x1⟩:=row1 k hlt
    have y0:=(iC hbw g (off+k*2) (by omega)).trans x0
    have y1:=(iC hbw g (off+k*2+1) (by omega)).trans x1
    have hfl:(p.files.length:Int)≤2:=hP.2.2.1.2
    obtain ⟨fa,fb,_⟩:=hP.2.2.1.1 k (by omega) (by omega)
    obtain ⟨a,ha⟩:∃ a:Nat,(V.ix p.files k).a=a:=⟨(V.ix p.files k).a.toNat,by omega⟩
    obtain ⟨b,hb⟩:∃ b:Nat,(V.ix p.files k).b=b:=⟨(V.ix p.files k).b.toNat,by omega⟩
    rw [ha] at y0
    rw [hb] at y1
    have da:=Rc a (by omega)
    have db:=Rc b (by omega)
    go_wp2
    obtain ⟨W5,hW5⟩:∃ W5:World,W5=(wr.alloc (Obj.cells #[.int .i64 a,.int .i64 b] 97)).drew:=⟨_,rfl⟩
    have z0:W5.cell? ⟨wr.heap.size,0,none⟩=some (.int .i64 a):=by rw [hW5];exact Gx wr _ _ 0
    have z1:W5.cell? ⟨wr.heap.size,1,none⟩=some (.int .i64 b):=by rw [hW5];exact Gx wr _ _ 1
    refine In 9 mixed (by kernel_rfl) W5 hW5 ?_
    simp only [List.take_succ_cons,List.take_zero,List.drop_succ_cons,List.drop_zero]
    repeat still_step
    still_call (Tryz.strconv_Itoa_small a (by omega) _)
    repeat still_step
    still_call (Tryz.strconv_Itoa_small b (by omega) _)
    repeat still_step
    refine wpStill_nil ?_
    have hstr:((⟨#[32]⟩:ByteArray)++⟨#[V.u8 (48+(a:Int))]⟩++⟨#[58]⟩++⟨#[V.u8 (48+(b:Int))]⟩)=V.bA (V.fT (V.ix p.files k)):=by
     show V.bA [32]++V.bA [V.u8 (48+(a:Int))]++V.bA [58]++V.bA [V.u8 (48+(b:Int))]=_
     rw [V.bA_app,V.bA_app,V.bA_app]
     simp [V.fT,ha,hb]
    have hI5:SZ w2.heap.size (V.nmT p.name p.ver++(p.files.take k).flatMap V.fT) W5:=by rw [hW5];exact hI.alloc _
    have hb5:Below w2.heap.size w2 W5:=hbw.trans (by rw [hW5];exact Io ((eH wr _).mono hbw.size))
    clear hW5 z0 z1 y0 y1
    go_wp2_with (go_at_call 52;refine (nW w2.heap.size w2.heap.size _ _ W5 hI5 ?hq1 hb5.size).mono ?_)
    case hq1=>
     have hl:=Ip hP k hk
     rw [V.bA_size,Lib.byteCells_length]
     rw [show (V.fT (V.ix p.files k)).length=4 from rfl]
     omega
    rintro e w6 ⟨rfl,hB6,hbl6,_⟩
    go_wp2
    go_roundw
    case rel=>
     refine ⟨k+1,rfl,by omega,.inr ?_,hb5.trans hbl6⟩
     rw [rU,←Lib.byteCells_append] at hB6
     rw [Dr V.fT p.files k hlt,←List.append_assoc]
     exact hB6
    case measure=>simp only [intOf];omega
   ·have hk':k=p.files.length:=by omega
    subst hk'
    rw [List.take_length] at hI
    have c3:wr.cell? ⟨w.heap.size,3,none⟩=some (.slice A2 p.deps.length cap2):=by rw [iC hbw _ _ hsz2];simp only [World.cell?,hbx];rfl
    clear row1
    go_wp2
    go_loopw [38] (fun i wr=>∃ k:Nat,i= .int .i64 k∧k≤p.deps.length∧SZ w2.heap.size (V.nmT p.name p.ver++p.files.flatMap V.fT++(p.deps.take k).flatMap V.dT) wr∧Below w2.heap.size w2 wr) (fun i wr=>p.deps.length - (intOf i).toNat)
    case atStart=>exact ⟨0,rfl,by omega,by simpa using hI,hbw⟩
    case round=>
     clear hI hbw c3
     obtain ⟨k,rfl,hk,hI,hbw⟩:=hrel
     have hdl:(p.deps.length:Int)≤2:=hP.2.2.2.2
     by_cases hlt:k<p.deps.length
     ·obtain ⟨g,off,rfl,hcap,hg,x0,x1⟩:=row2 k hlt
      have y0:=(iC hbw g (off+k*2) (by omega)).trans x0
      have y1:=(iC hbw g (off+k*2+1) (by omega)).trans x1
      obtain ⟨fa,_,fb,_⟩:=hP.2.2.2.1 k (by omega) (by omega)
      have hz:¬9223372036854775807<1+(V.bA (V.nmT (V.ix p.deps k).a (V.ix p.deps k).b)).size:=by rw [V.bA_size];simp [V.nmT]
      go_wp2_with (go_at_call 53;refine (CR _ _ fa fb _).mono ?_;rintro e w' ⟨rfl,rfl⟩)
      have hstr:((⟨#[32]⟩:ByteArray)++V.bA (V.nmT (V.ix p.deps k).a (V.ix p.deps k).b))=V.bA (V.dT (V.ix p.deps k)):=by
       show V.bA [32]++V.bA _=_
       rw [V.bA_app]
       rfl
      have hI5:SZ w2.heap.size (V.nmT p.name p.ver++p.files.flatMap V.fT++(p.deps.take k).flatMap V.dT) (wr.alloc (Obj.cells #[.int .i64 (V.ix p.deps k).a,.int .i64 (V.ix p.deps k).b] 100)):=hI.alloc _
      have hb5:Below w2.heap.size w2 (wr.alloc (Obj.cells #[.int .i64 (V.ix p.deps k).a,.int .i64 (V.ix p.deps k).b] 100)):=hbw.trans ((eH wr _).mono hbw.size)
      refine (nW w2.heap.size w2.heap.size _ _ _ hI5 ?hq2 hb5.size).mono ?_
      case hq2=>
       have hl:=Gy hP k hk
       rw [hstr,V.bA_size,Lib.byteCells_length]
       rw [show (V.dT (V.ix p.deps k)).length=3 from rfl]
       omega
      rintro e w6 ⟨rfl,hB6,hbl6,_⟩
      rw [hstr,rU,←Lib.byteCells_append] at hB6
      clear hstr
      go_wp2
      go_roundw
      case rel=>
       refine ⟨k+1,rfl,by omega,.inr ?_,hb5.trans hbl6⟩
       rw [Dr V.dT p.deps k hlt,←List.append_assoc]
       exact hB6
      case measure=>simp only [intOf];omega
     ·have hk':k=p.deps.length:=by omega
      subst hk'
      rw [List.take_length] at hI
      clear row2
      go_wp2_with (go_at_call 55;refine (Tryz.Builder_String_any_k w2.heap.size w2.heap.size _ _ hI hbw.size).mono ?_)
      rintro e w7 ⟨rfl,_,hb7,_⟩
      go_wp2
      go_ret
      refine ⟨?_,(hb0.trans (hbw.mono (Nat.le_of_lt hsz2))).trans (hb7.mono (Nat.le_of_lt hsz2))⟩
      show Ending.returned (Value.string (V.bA _))=_
      rw [V.textM,if_pos hP,List.append_assoc]
 ·have hd:decide (V.PkOk p)=false:=decide_eq_false hP
  rw [hd]
  go_wp2
  go_ret
  refine ⟨?_,hb0⟩
  rw [V.textM,if_neg hP]
  rfl
namespace V
variable {W:Wld}
theorem Kx {w w':World}{own:Own}{cx:Cx}{sig:Sig}{vals:List Value}{d:D}{v:Value}(hw:WOk w own cx own w)(hlow:∀ g i,own g=some i→i.leaf.1<sig.ps.length)(hb:Below w.heap.size w w')
  (hrs:sig.rs=[.v false [.s]])(hbx:boxPs sig.ps 0=[])(hio:BJ sig=none)(hs:Scal d v):∃ u own',Ending.returned v= .returned u∧WOk w own cx own' w'∧lI w' cx own' sig [[d]] vals u:=by
 refine ⟨v,fun _=>none,rfl,⟨⟨hb.os,hb.tape,hb.output,hb.size,fun g hg _=>hb.block g hg,fun g o hg _=>by simp only [World.cell?,hb.block g hg],fun g cur T h=>⟨cur,by rw [hb.block g (iW h)];exact h,rfl⟩⟩,fun g i h=>(by cases h),hw.n,hw.s1,hw.s2,fun g o _ hc=>?_,fun g g' i j h=>(by cases h)⟩,?_⟩
 ·obtain ⟨i,b,h1,_⟩:=hc
  cases h1
 ·unfold lI
  rw [hio]
  have c1:Cell1 v:=by cases hs<;>exact ⟨fun c h=>(by cases h),fun c h=>(by cases h)⟩
  refine ⟨by rw [hrs,hbx];rfl,[v],by rw [hrs];rfl,rfl,fun k p hp=>?_,fun i b hb=>by rw [hbx] at hb;simp at hb⟩
  rw [hrs] at hp
  cases k with
  | succ k=>simp at hp
  | zero=>
   have hp:PSh.v false [.s]=p:=by simpa using hp
   subst hp
   refine ⟨[v],rfl,fun _=>rfl,rfl,rfl,fun i c dd u hc hd hv=>?_⟩
   cases i with
   | succ i=>simp at hc
   | zero=>
    simp only [List.getElem?_cons_zero,Option.some.injEq] at hc hv
    subst hc;subst hv
    have hd:some d=some dd:=hd
    simp only [Option.some.injEq] at hd
    subst hd
    exact ⟨c1,hs⟩
theorem zR (p:Pk)(hs:SmP p):FunOk PP W rG kU [ePk p] [sT (textM p)]:=by
 refine ⟨⟨Tryz.f16,Tryz.func16,by kernel_rfl,by kernel_rfl⟩,fun w own cx vals hP hw hlow hvl hil hinv=>?_⟩
 match vals,hvl with
 | [v0],_=>
  obtain ⟨vs,e0,_,l0,l1,a0⟩:=hinv (0,.v true [.s,.s,.b,.b]) (List.mem_cons_self ..)
  have l1:vs.length=4:=l1
  match vs,l1 with
  | [u0,u1,u2,u3],_=>
   have e0:v0= .agg #[u0,u1,u2,u3]:=e0
   obtain ⟨_,h0⟩:=a0 0 .s (.int .i64 p.name) u0 rfl rfl rfl
   obtain ⟨_,h1⟩:=a0 1 .s (.int .i64 p.ver) u1 rfl rfl rfl
   obtain ⟨_,h2⟩:=a0 2 .b (.sl (p.files.map eP2)) u2 rfl rfl rfl
   obtain ⟨_,h3⟩:=a0 3 .b (.sl (p.deps.map eP2)) u3 rfl rfl rfl
   have h0:Scal (.int .i64 p.name) u0:=h0
   have h1:Scal (.int .i64 p.ver) u1:=h1
   cases h0
   cases h1
   subst e0
   refine (Ey p hs u2 u3 w (NQ h2) (NQ h3)).mono ?_
   rintro e w' ⟨rfl,hb⟩
   exact Kx hw (fun g i h=>(hlow g i h).2) hb rfl rfl rfl (.str _)
end V
end Go.Proofs.YtmgpamcpdblckaaGreatDoor

/-
Plain proofs: texts of packages and their sums.
-/
namespace Go.Proofs.YtmgpamcpdblckaaGreatDoor
namespace V
section
open Classical
variable {W:Wld}

theorem Jm {a b:ByteArray}(h:a=b):([.str a]:List D)=[.str b]:=by rw [h]
theorem Iq {a b:ByteArray}(h:a=b):([[.str a]]:List (List D))=[[.str b]]:=by rw [h]
theorem NS (n:Int)(h:0≤n∧n≤255):IntKind.u8.wrap n=n:=by
 show (if (false&&decide (n % (2^8:Int)≥(2^7:Int)))=true then n % (2^8:Int) - (2^8:Int) else n % (2^8:Int))=n
 simp only [Bool.false_and]
 rw [if_neg (by simp)]
 omega
theorem Gz (n:Int)(h:0≤n∧n≤9):FunOk PP W jO eT [i64 n] [sT [u8 (48+n)]]:=by
 refine Kp (aU ?_)
 (repeat' first
  | (refine run_ite rfl (fun h=>?_) (fun h=>?_)<;>(try simp (disch:=omega) only [zB,eqDs,bM,Nat.reduceAdd,aA] at h)<;>(try (exfalso;omega)))
  | refine aI rfl ?_
  | refine aJ rfl ?_
  | refine aB rfl ?_ ?_
  | (refine aG rfl ?_;first | refine rb ?_ | refine ri ?_ | refine bV ?_ ?_ | refine cE ?_)
  | refine aD rfl ?_)
 rw [aA _ (by omega),NS _ (by omega)]
 rfl
theorem Ds (n v:Int)(hn:1≤n∧n≤4)(hv:1≤v∧v≤5):FunOk PP W pT iB [i64 n,i64 v] [sT (nmT n v)]:=by
 refine IY (aU ?_)
 (repeat' first
  | (refine run_ite rfl (fun h=>?_) (fun h=>?_)<;>(try simp (disch:=omega) only [zB,eqDs,bM,Nat.reduceAdd,aA] at h)<;>(try (exfalso;omega)))
  | refine aI rfl ?_
  | refine aJ rfl ?_
  | refine aE rfl (Gz v (by omega)) rfl ?_
  | refine aB rfl ?_ ?_
  | (refine aG rfl ?_;first | refine rb ?_ | refine ri ?_ | refine bV ?_ ?_ | refine cE ?_)
  | refine aD rfl ?_)
 ·rw [bA_size]
  show 1+1≤lim
  decide
 ·rw [aA (97+n) (by omega),aA _ (by omega),NS _ (by omega)]
  show [D.str (bA [u8 (97+n - 1)]++bA [u8 (48+v)])]=_
  rw [bA_app]
  rfl
theorem Ez (l:List UInt8)(i:Int)(hi:i.toNat<l.length):QU (bA l) i=((ix l i).toNat:Int):=by
 unfold QU
 have h:i.toNat<(bA l).size:=by rw [bA_size];exact hi
 rw [getElem?_pos (bA l) i.toNat h]
 have e1:ix l i=l[i.toNat]:=by
  simp [ix,hi]
  rfl
 rw [e1]
 rfl
abbrev eB8 (b:UInt8):List D:=[.int .u8 b.toNat]
theorem Ky (l:List UInt8):qO (bA l)=l.map eB8:=rfl
theorem Sa (l:List UInt8)(i:Int)(hi:i.toNat<l.length):cI (l.map eB8) i 0=((ix l i).toNat:Int):=by
 simp [cI,gQ,hi,qZ]
theorem HA (l:List UInt8)(i:Int)(h0:0≤i)(hi:i<l.length)(x:Int)(hx:x=((ix l i).toNat:Int)):
  (IntKind.i64.wrap (IntKind.i64.wrap (IntKind.i64.wrap (31*uC (l.take i.toNat))+IntKind.i64.wrap x)+1)).tmod 9973=uC (l.take (i+1).toNat):=by
 have hr:=Ik (l.take i.toNat)
 have hb:(ix l i).toNat<256:=(ix l i).toNat_lt
 rw [aA x (by omega),aA (31*_) (by omega),aA (_+x) (by omega),aA _ (by omega),gY l h0 hi]
 unfold uC at hr ⊢
 rw [List.foldl_append]
 simp only [List.foldl_cons,List.foldl_nil]
 rw [hx]
 rfl
theorem xT (l:List UInt8)(hl:l.length≤1000000):FunOk PP W sI jY [sT l] [i64 (uC l)]:=by
 refine Kr (aU ?_)
 refine aY rfl (fun i:Int=>0≤i∧i≤l.length) (fun i=>[(4,.val (i64 i)),(3,.val (i64 (uC (l.take i.toNat)))),(0,.val (sT l))]) (fun i=>(l.length - i).toNat) 0 ⟨by omega,by omega⟩ ⟨rfl,rfl,rfl,trivial⟩ rfl ?_
 rintro i e ⟨h0,hN⟩
 have hsz:=bA_size l
 (repeat' first
  | (refine run_ite rfl (fun h=>?_) (fun h=>?_)<;>(try simp (disch:=omega) only [zB,eqDs,bM,Nat.reduceAdd,aA] at h)<;>(try (exfalso;omega)))
  | refine aI rfl ?_
  | refine aJ rfl ?_
  | (refine aS rfl (Exists.intro (i+1) ⟨by omega,⟨by omega,by omega⟩,aX (aA _ (by omega)),aX (HA l i h0 (by omega) _ (Ez l i (by omega))),rfl,trivial⟩))
  | refine aB rfl ?_ ?_
  | (refine aG rfl ?_;first | refine rb ?_ | refine ri ?_ | refine bV ?_ ?_ | refine cE ?_)
  | refine aD rfl ?_)
 rw [List.take_of_length_le (by omega)]
theorem Kz (l:List UInt8)(hl:l.length≤1000000):FunOk PP W xI lZ [sT l] [i64 (uC l)]:=by
 refine Kl (aU ?_)
 refine aB rfl (by rw [bA_size];unfold lim;omega) ?_
 rw [Ky]
 refine aY rfl (fun i:Int=>0≤i∧i≤l.length) (fun i=>[(9,.val (i64 i)),(3,.val (i64 (uC (l.take i.toNat)))),(7,.val [.sl (l.map eB8)]),(8,.val (i64 (l.map eB8).length))]) (fun i=>(l.length - i).toNat) 0 ⟨by omega,by omega⟩ ⟨rfl,rfl,rfl,rfl,trivial⟩ rfl ?_
 rintro i e ⟨h0,hN⟩
 (repeat' first
  | (refine run_ite rfl (fun h=>?_) (fun h=>?_)<;>(try simp (disch:=omega) only [zB,eqDs,bM,Nat.reduceAdd,aA] at h)<;>(try (exfalso;omega)))
  | refine aI rfl ?_
  | refine aJ rfl ?_
  | (refine aS rfl (Exists.intro (i+1) ⟨by omega,⟨by omega,by omega⟩,aX (aA _ (by omega)),aX (HA l i h0 (by omega) _ (Sa l i (by omega))),rfl,rfl,trivial⟩))
  | refine aB rfl ?_ ?_
  | (refine aG rfl ?_;first | refine rb ?_ | refine ri ?_ | refine bV ?_ ?_ | refine cE ?_)
  | refine aD rfl ?_)
 rw [List.take_of_length_le (by omega)]
theorem Dt (p:Pk)(hs:SmP p):FunOk PP W pR hZ [ePk p] [Ht (gN p)]:=by
 refine IM (aU ?_)
 have hl:=mA p
 (repeat' first
  | (refine run_ite rfl (fun h=>?_) (fun h=>?_)<;>(try simp (disch:=omega) only [zB,eqDs,bM,Nat.reduceAdd,aA] at h)<;>(try (exfalso;omega)))
  | refine aI rfl ?_
  | refine aJ rfl ?_
  | refine aE rfl (zR p hs) rfl ?_
  | refine aE rfl (Kz (textM p) (by omega)) rfl ?_
  | refine aB rfl ?_ ?_
  | (refine aG rfl ?_;first | refine rb ?_ | refine ri ?_ | refine bV ?_ ?_ | refine cE ?_)
  | refine aD rfl ?_)
 rfl

/-! The specification's text of a package. -/
theorem PZ (n v:Int):(nmT n v).length=2:=rfl
theorem TU (b:UInt8):(⟨#[b]⟩:ByteArray).size=1:=rfl
theorem sK {α:Type}(f:α→List UInt8)(n:Nat)(hf:∀ x,(f x).length=n):∀ xs:List α,(xs.flatMap f).length=n*xs.length
 | []=>by simp
 | x::r=>by
  have:=sK f n hf r
  simp [hf,this,Nat.mul_add,Nat.add_comm]
theorem QX {α:Type}[Inhabited α](f:α→List UInt8)(xs:List α){i:Int}(h0:0≤i)(h1:i<xs.length):(xs.take (i+1).toNat).flatMap f=(xs.take i.toNat).flatMap f++f (ix xs i):=by
 rw [gY xs h0 h1]
 simp
theorem Pa (acc:List UInt8)(f:P2):bA acc++⟨#[32]⟩++bA [u8 (48+f.a)]++⟨#[58]⟩++bA [u8 (48+f.b)]=bA (acc++fT f):=by
 show bA acc++bA [32]++bA [u8 (48+f.a)]++bA [58]++bA [u8 (48+f.b)]=_
 simp only [bA_app,List.append_assoc]
 rfl
theorem Pb (acc:List UInt8)(f:P2):bA acc++⟨#[32]⟩++bA (nmT f.a f.b)=bA (acc++dT f):=by
 show bA acc++bA [32]++bA (nmT f.a f.b)=_
 simp only [bA_app,List.append_assoc]
 rfl
theorem nN (p:Pk)(hs:SmP p):FunOk PP W iK dU [ePk p] [sT (textM p)]:=by
 refine Gp (aU ?_)
 (repeat' first
  | (refine run_ite rfl (fun h=>?_) (fun h=>?_)<;>(try simp (disch:=omega) only [zB,eqDs,bM,Nat.reduceAdd,aA] at h)<;>(try (exfalso;omega)))
  | refine aI rfl ?_
  | refine aJ rfl ?_
  | refine aE rfl (Dj p hs) rfl ?_
  | refine aB rfl ?_ ?_
  | (refine aG rfl ?_;first | refine rb ?_ | refine ri ?_ | refine bV ?_ ?_ | refine cE ?_)
  | refine aD rfl ?_)
 ·rw [textM,if_neg h]
  rfl
 have h1:(p.files.length:Int)≤2:=h.2.2.1.2
 have h2:(p.deps.length:Int)≤2:=h.2.2.2.2
 have hT:textM p=nmT p.name p.ver++p.files.flatMap fT++p.deps.flatMap dT:=by rw [textM,if_pos h]
 rw [hT]
 have hF:=h.2.2.1.1
 have hD:=h.2.2.2.1
 have hn:(nmT p.name p.ver).length=2:=rfl
 have hfl:=sK fT 4 (fun _=>rfl) p.files
 (repeat' first
  | (refine run_ite rfl (fun h=>?_) (fun h=>?_)<;>(try simp (disch:=omega) only [zB,eqDs,bM,Nat.reduceAdd,aA] at h)<;>(try (exfalso;omega)))
  | refine aI rfl ?_
  | refine aJ rfl ?_
  | refine aE rfl (Ds p.name p.ver h.1 h.2.1) rfl ?_
  | refine aB rfl ?_ ?_
  | (refine aG rfl ?_;first | refine rb ?_ | refine ri ?_ | refine bV ?_ ?_ | refine cE ?_)
  | refine aD rfl ?_)
 refine aY rfl (fun i:Int=>0≤i∧i≤p.files.length) (fun i=>[(4,.val (i64 i)),(3,.val (sT (nmT p.name p.ver++(p.files.take i.toNat).flatMap fT))),(1,.val (ePk p))]) (fun i=>(p.files.length - i).toNat) 0 ⟨by omega,by omega⟩ ⟨rfl,rfl,rfl,trivial⟩ rfl ?_
 rintro i e ⟨h0,hN⟩
 by_cases hi:i<p.files.length
 ·obtain ⟨fa,fb,_⟩:=hF i h0 hi
  have hl:(nmT p.name p.ver++(p.files.take i.toNat).flatMap fT).length≤10:=by
   rw [List.length_append,sK fT 4 (fun _=>rfl),List.length_take]
   omega
  (repeat' first
  | (refine run_ite rfl (fun h=>?_) (fun h=>?_)<;>(try simp (disch:=omega) only [zB,eqDs,bM,Nat.reduceAdd,aA] at h)<;>(try (exfalso;omega)))
  | refine aI rfl ?_
  | refine aJ rfl ?_
  | refine aE rfl (Gz _ (by simp only [zB,eqDs,bM,Nat.reduceAdd];omega)) rfl ?_
  | (refine aB rfl (by simp only [ByteArray.size_append,bA_size,TU,List.length_cons,List.length_nil];unfold lim;omega) ?_)
  | (refine aS rfl (Exists.intro (i+1) ⟨by omega,⟨by omega,by omega⟩,aX (aA _ (by omega)),?_,rfl,trivial⟩))
  | refine aB rfl ?_ ?_
  | (refine aG rfl ?_;first | refine rb ?_ | refine ri ?_ | refine bV ?_ ?_ | refine cE ?_)
  | refine aD rfl ?_)
  have hx:(⟨cI (p.files.map eP2) i 0,cI (p.files.map eP2) i 1⟩:P2)=ix p.files i:=by rw [EY,EZ]
  exact Jm ((Pa (nmT p.name p.ver++(p.files.take i.toNat).flatMap fT) ⟨cI (p.files.map eP2) i 0,cI (p.files.map eP2) i 1⟩).trans (by rw [hx,QX fT p.files h0 hi,List.append_assoc]))
 ·have ht:p.files.take i.toNat=p.files:=List.take_of_length_le (by omega)
  rw [ht]
  (repeat' first
  | (refine run_ite rfl (fun h=>?_) (fun h=>?_)<;>(try simp (disch:=omega) only [zB,eqDs,bM,Nat.reduceAdd,aA] at h)<;>(try (exfalso;omega)))
  | refine aI rfl ?_
  | refine aJ rfl ?_
  | refine aB rfl ?_ ?_
  | (refine aG rfl ?_;first | refine rb ?_ | refine ri ?_ | refine bV ?_ ?_ | refine cE ?_)
  | refine aD rfl ?_)
  refine aY rfl (fun i:Int=>0≤i∧i≤p.deps.length) (fun i=>[(5,.val (i64 i)),(3,.val (sT (nmT p.name p.ver++p.files.flatMap fT++(p.deps.take i.toNat).flatMap dT))),(1,.val (ePk p))]) (fun i=>(p.deps.length - i).toNat) 0 ⟨by omega,by omega⟩ ⟨rfl,Jm (by simp),rfl,trivial⟩ rfl ?_
  rintro k e ⟨k0,kN⟩
  by_cases hk:k<p.deps.length
  ·obtain ⟨fa,_,fb,_⟩:=hD k k0 hk
   have hl:(nmT p.name p.ver++p.files.flatMap fT++(p.deps.take k.toNat).flatMap dT).length≤16:=by
    rw [List.length_append,List.length_append,sK dT 3 (fun _=>rfl),List.length_take,hfl]
    omega
   have hn2:(nmT (ix p.deps k).a (ix p.deps k).b).length=2:=rfl
   (repeat' first
  | (refine run_ite rfl (fun h=>?_) (fun h=>?_)<;>(try simp (disch:=omega) only [zB,eqDs,bM,Nat.reduceAdd,aA] at h)<;>(try (exfalso;omega)))
  | refine aI rfl ?_
  | refine aJ rfl ?_
  | refine aE rfl (Ds _ _ (by simp only [zB,eqDs,bM,Nat.reduceAdd];exact fa) (by simp only [zB,eqDs,bM,Nat.reduceAdd];exact fb)) rfl ?_
  | (refine aB rfl (by simp only [ByteArray.size_append,bA_size,TU,PZ];unfold lim;omega) ?_)
  | (refine aS rfl (Exists.intro (k+1) ⟨by omega,⟨by omega,by omega⟩,aX (aA _ (by omega)),?_,rfl,trivial⟩))
  | refine aB rfl ?_ ?_
  | (refine aG rfl ?_;first | refine rb ?_ | refine ri ?_ | refine bV ?_ ?_ | refine cE ?_)
  | refine aD rfl ?_)
   have hx:(⟨cI (p.deps.map eP2) k 0,cI (p.deps.map eP2) k 1⟩:P2)=ix p.deps k:=by rw [EY,EZ]
   exact Jm ((Pb (nmT p.name p.ver++p.files.flatMap fT++(p.deps.take k.toNat).flatMap dT) ⟨cI (p.deps.map eP2) k 0,cI (p.deps.map eP2) k 1⟩).trans (by rw [hx,QX dT p.deps k0 hk];simp only [List.append_assoc]))
  ·have ht:p.deps.take k.toNat=p.deps:=List.take_of_length_le (by omega)
   rw [ht]
   (repeat' first
  | (refine run_ite rfl (fun h=>?_) (fun h=>?_)<;>(try simp (disch:=omega) only [zB,eqDs,bM,Nat.reduceAdd,aA] at h)<;>(try (exfalso;omega)))
  | refine aI rfl ?_
  | refine aJ rfl ?_
  | refine aB rfl ?_ ?_
  | (refine aG rfl ?_;first | refine rb ?_ | refine ri ?_ | refine bV ?_ ?_ | refine cE ?_)
  | refine aD rfl ?_)
   rfl
end
section
open Classical
variable {W:Wld}

theorem FA {p q:Mt}(h1:p.name=q.name)(h2:p.ver=q.ver)(h3:p.sum=q.sum):p=q:=by cases p;cases q;simp_all
theorem Pc (a b:List Mt)(ha:a.length≤lim):FunOk PP W lE dN [Fy a,Fy b] [bo (decide (a=b))]:=by
 refine AF (aU ?_)
 unfold lim at ha
 (repeat' first
  | (refine run_ite rfl (fun h=>?_) (fun h=>?_)<;>(try simp (disch:=omega) only [zB,eqDs,bM,Nat.reduceAdd,aA] at h)<;>(try (exfalso;omega)))
  | refine aI rfl ?_
  | refine aJ rfl ?_
  | refine aB rfl ?_ ?_
  | (refine aG rfl ?_;first | refine rb ?_ | refine ri ?_ | refine bV ?_ ?_ | refine cE ?_)
  | refine aD rfl ?_)
 ·exact fD (fun h'=>by simp_all)
 have hn:a.length=b.length:=by omega
 clear h
 refine aY rfl (fun i:Int=>0≤i∧i≤a.length∧vI i (fun j=>ix a j=ix b j)) (fun i=>[(13,.val (i64 i)),(0,.val (Fy a)),(1,.val (Fy b)),(12,.val (i64 (a.map Ht).length))]) (fun i=>(a.length - i).toNat) 0 ⟨by omega,by omega,cV _⟩ ⟨rfl,rfl,rfl,rfl,trivial⟩ rfl ?_
 rintro i e ⟨h0,hN,hP⟩
 (repeat' first
  | (refine run_ite rfl (fun h=>?_) (fun h=>?_)<;>(try simp (disch:=omega) only [zB,eqDs,bM,Nat.reduceAdd,aA] at h)<;>(try (exfalso;omega)))
  | refine aI rfl ?_
  | refine aJ rfl ?_
  | (refine aS rfl (Exists.intro (i+1) ⟨by omega,⟨by omega,by omega,cW hP ?_⟩,aX (aA _ (by omega)),rfl,rfl,rfl,trivial⟩))
  | refine aB rfl ?_ ?_
  | (refine aG rfl ?_;first | refine rb ?_ | refine ri ?_ | refine bV ?_ ?_ | refine cE ?_)
  | refine aD rfl ?_)
 ·exact fD (fun h'=>by subst h';exact h rfl rfl rfl)
 ·exact FA h.1 h.2.1 h.2.2
 ·exact tD (Ea hn (gT hP (by omega)))
theorem NT (l:List Mt)(m:Mt)(hl:l.length≤lim):FunOk PP W lC dM [Fy l,Ht m] [i64 (oS (fun y=>y=m) l l.length 0)]:=by
 refine AD (aU ?_)
 unfold lim at hl
 refine aY rfl (fun i:Int=>0≤i∧i≤l.length∧oS (fun y=>y=m) l l.length 0=oS (fun y=>y=m) l (l.length - i).toNat i) (fun i=>[(8,.val (i64 i)),(0,.val (Fy l)),(3,.val (Ht m)),(7,.val (i64 (l.map Ht).length))]) (fun i=>(l.length - i).toNat) 0 ⟨by omega,by omega,by simp⟩ ⟨rfl,rfl,rfl,rfl,trivial⟩ rfl ?_
 rintro i e ⟨h0,hN,hP⟩
 (repeat' first
  | (refine run_ite rfl (fun h=>?_) (fun h=>?_)<;>(try simp (disch:=omega) only [zB,eqDs,bM,Nat.reduceAdd,aA] at h)<;>(try (exfalso;omega)))
  | refine aI rfl ?_
  | refine aJ rfl ?_
  | (refine aS rfl (Exists.intro (i+1) ⟨by omega,⟨by omega,by omega,?_⟩,aX (aA _ (by omega)),rfl,rfl,rfl,trivial⟩))
  | refine aB rfl ?_ ?_
  | (refine aG rfl ?_;first | refine rb ?_ | refine ri ?_ | refine bV ?_ ?_ | refine cE ?_)
  | refine aD rfl ?_)
 ·rw [hP,show ((l.length:Int) - i).toNat=((l.length:Int) - (i+1)).toNat+1 by omega,oS,if_pos (FA h.1.symm h.2.1.symm h.2.2.symm)]
 ·rw [hP,show ((l.length:Int) - i).toNat=((l.length:Int) - (i+1)).toNat+1 by omega,oS,if_neg (fun h'=>by subst h';exact h rfl rfl rfl)]
 ·rw [hP,show ((l.length:Int) - i).toNat=0 by omega,oS]
theorem HB (l:List Mt)(m:Mt)(hl:l.length≤lim):FunOk PP W eL bW [Fy l,Ht m] [bo (decide (m∈l))]:=by
 refine uA (aU ?_)
 (repeat' first
  | (refine run_ite rfl (fun h=>?_) (fun h=>?_)<;>(try simp (disch:=omega) only [zB,eqDs,bM,Nat.reduceAdd,aA] at h)<;>(try (exfalso;omega)))
  | refine aI rfl ?_
  | refine aJ rfl ?_
  | refine aE rfl (NT l m hl) rfl ?_
  | refine aB rfl ?_ ?_
  | (refine aG rfl ?_;first | refine rb ?_ | refine ri ?_ | refine bV ?_ ?_ | refine cE ?_)
  | refine aD rfl ?_)
 simp only [Tl]
 congr 1
 rw [eq_iff_iff,Gu]
 exact ⟨fun ⟨y,h1,h2⟩=>h2▸h1,fun h=>⟨m,h,rfl⟩⟩

theorem zS (x:Ix)(hl:x.ms.length≤lim):FunOk PP W nI fS [AN x] [bo (decide (Im x))]:=by
 refine Gi (aU ?_)
 unfold lim at hl
 (repeat' first
  | (refine run_ite rfl (fun h=>?_) (fun h=>?_)<;>(try simp (disch:=omega) only [zB,eqDs,bM,Nat.reduceAdd,aA] at h)<;>(try (exfalso;omega)))
  | refine aI rfl ?_
  | refine aJ rfl ?_
  | refine aE rfl (pV ..) rfl ?_
  | refine aB rfl ?_ ?_
  | (refine aG rfl ?_;first | refine rb ?_ | refine ri ?_ | refine bV ?_ ?_ | refine cE ?_)
  | refine aD rfl ?_)
 ·exact fD (p:=Im x) (fun h'=>h h'.1)
 ·exact fD (p:=Im x) (fun h'=>h h'.2.1)
 ·exact fD (p:=Im x) (fun h'=>by have:=h'.2.2.1;omega)
 rename_i q1 q2
 refine aY rfl (fun i:Int=>0≤i∧i≤x.ms.length∧vI i (Il x.ms)) (fun i=>[(3,.val (i64 i)),(1,.val (AN x))]) (fun i=>(x.ms.length - i).toNat) 0 ⟨by omega,by omega,cV _⟩ ⟨rfl,rfl,trivial⟩ rfl ?_
 rintro i e ⟨h0,hN,hP⟩
 (repeat' first
  | (refine run_ite rfl (fun h=>?_) (fun h=>?_)<;>(try simp (disch:=omega) only [zB,eqDs,bM,Nat.reduceAdd,aA] at h)<;>(try (exfalso;omega)))
  | refine aI rfl ?_
  | refine aJ rfl ?_
  | refine aE rfl (pV ..) rfl ?_
  | refine aE rfl (sJ ..) rfl ?_
  | (refine aS rfl (Exists.intro (i+1) ⟨by omega,⟨by omega,by omega,cW hP (by unfold Il;omega)⟩,aX (aA _ (by omega)),rfl,trivial⟩))
  | refine aB rfl ?_ ?_
  | (refine aG rfl ?_;first | refine rb ?_ | refine ri ?_ | refine bV ?_ ?_ | refine cE ?_)
  | refine aD rfl ?_)
 all_goals first
  | exact tD (p:=Im x) ⟨q1,q2,by omega,gT hP (by omega)⟩
  | exact fD (p:=Im x) (fun h'=>by have:=h'.2.2.2 i (by omega) (by omega);unfold Il at this;omega)
theorem zT (x:Ix)(hl:x.ms.length≤lim):FunOk PP W nJ fU [AN x] [bo (decide (Im x))]:=by
 refine Gm (aU ?_)
 unfold lim at hl
 refine aY rfl (fun i:Int=>0≤i∧i≤x.ms.length∧vI i (Il x.ms)) (fun i=>[(8,.val (i64 i)),(1,.val (AN x)),(6,.val (Fy x.ms)),(7,.val (i64 (x.ms.map Ht).length))]) (fun i=>(x.ms.length - i).toNat) 0 ⟨by omega,by omega,cV _⟩ ⟨rfl,rfl,rfl,rfl,trivial⟩ rfl ?_
 rintro i e ⟨h0,hN,hP⟩
 (repeat' first
  | (refine run_ite rfl (fun h=>?_) (fun h=>?_)<;>(try simp (disch:=omega) only [zB,eqDs,bM,Nat.reduceAdd,aA] at h)<;>(try (exfalso;omega)))
  | refine aI rfl ?_
  | refine aJ rfl ?_
  | refine aE rfl (Di ..) rfl ?_
  | refine aE rfl (xP ..) rfl ?_
  | refine aE rfl (CL ..) rfl ?_
  | (refine aS rfl (Exists.intro (i+1) ⟨by omega,⟨by omega,by omega,cW hP (by unfold Il;omega)⟩,aX (aA _ (by omega)),rfl,rfl,rfl,trivial⟩))
  | refine aB rfl ?_ ?_
  | (refine aG rfl ?_;first | refine rb ?_ | refine ri ?_ | refine bV ?_ ?_ | refine cE ?_)
  | refine aD rfl ?_)
 all_goals first
  | exact fD (p:=Im x) (fun h'=>by have:=h'.2.2.2 i (by omega) (by omega);unfold Il at this;omega)
  | (refine dI (p:=Im x) ?_;simp only [List.length_map,decide_eq_true_eq];exact ⟨fun h'=>⟨by assumption,by assumption,h',gT hP (by omega)⟩,fun h'=>h'.2.2.1⟩)
  | exact fD (p:=Im x) (fun h'=>absurd h'.2.1 (by assumption))
  | exact fD (p:=Im x) (fun h'=>absurd h'.1 (by assumption))
theorem LA (x:Ix)(hl:x.ms.length≤lim):FunOk PP W mM eB [AN x,AN NO] [bo (decide (x.num=0∧x.till=0∧x.ms=[]))]:=by
 refine CD (aU ?_)
 (repeat' first
  | (refine run_ite rfl (fun h=>?_) (fun h=>?_)<;>(try simp (disch:=omega) only [zB,eqDs,bM,Nat.reduceAdd,aA] at h)<;>(try (exfalso;omega)))
  | refine aI rfl ?_
  | refine aJ rfl ?_
  | refine aE rfl (Pc x.ms [] hl) rfl ?_
  | refine aB rfl ?_ ?_
  | (refine aG rfl ?_;first | refine rb ?_ | refine ri ?_ | refine bV ?_ ?_ | refine cE ?_)
  | refine aD rfl ?_)
 all_goals simp_all [NO]
theorem zU (t:Tu)(hk:t.r.keys.length≤lim)(hl:t.x.ms.length≤lim):FunOk PP W rE iO [Jl t] [bo (decide (Ad t))]:=by
 refine GW (aU ?_)
 (repeat' first
  | (refine run_ite rfl (fun h=>?_) (fun h=>?_)<;>(try simp (disch:=omega) only [zB,eqDs,bM,Nat.reduceAdd,aA] at h)<;>(try (exfalso;omega)))
  | refine aI rfl ?_
  | refine aJ rfl ?_
  | refine aE rfl (Ii t.r hk) rfl ?_
  | refine aE rfl (zS t.x hl) rfl ?_
  | refine aB rfl ?_ ?_
  | (refine aG rfl ?_;first | refine rb ?_ | refine ri ?_ | refine bV ?_ ?_ | refine cE ?_)
  | refine aD rfl ?_)
 ·exact fD (p:=Ad t) (fun h'=>h h'.1)
 ·refine dI (p:=Ad t) ?_
  unfold Ad
  rw [if_pos h,decide_eq_true_eq]
  exact ⟨fun h'=>⟨by assumption,h'⟩,fun h'=>h'.2⟩
 ·rename_i q1 q2 q3
  refine dI (p:=Ad t) ?_
  unfold Ad
  rw [if_neg (by rw [q2];simp)]
  simp only [List.length_map,beq_iff_eq]
  exact ⟨fun h'=>⟨q1,q3,h,List.length_eq_zero_iff.1 (by omega)⟩,fun h'=>by rw [h'.2.2.2];rfl⟩
 ·rename_i q1 q2 q3
  exact fD (p:=Ad t) (fun h'=>by unfold Ad at h';rw [if_neg (by rw [q2];simp)] at h';exact h h'.2.2.1)
 ·rename_i q1 q2
  exact fD (p:=Ad t) (fun h'=>by unfold Ad at h';rw [if_neg (by rw [q2];simp)] at h';exact h h'.2.1)
theorem kW (t:Tu)(hk:t.r.keys.length≤lim)(hl:t.x.ms.length≤lim):FunOk PP W nH fR [Jl t] [bo (decide (Ad t))]:=by
 refine Gg (aU ?_)
 (repeat' first
  | (refine run_ite rfl (fun h=>?_) (fun h=>?_)<;>(try simp (disch:=omega) only [zB,eqDs,bM,Nat.reduceAdd,aA] at h)<;>(try (exfalso;omega)))
  | refine aI rfl ?_
  | refine aJ rfl ?_
  | refine aE rfl (Ij t.r hk) rfl ?_
  | refine aE rfl (zT t.x hl) rfl ?_
  | refine aE rfl (LA t.x hl) rfl ?_
  | refine aB rfl ?_ ?_
  | (refine aG rfl ?_;first | refine rb ?_ | refine ri ?_ | refine bV ?_ ?_ | refine cE ?_)
  | refine aD rfl ?_)
 ·exact fD (p:=Ad t) (fun h'=>h h'.1)
 ·refine dI (p:=Ad t) ?_
  unfold Ad
  rw [if_pos h,decide_eq_true_eq]
  exact ⟨fun h'=>⟨by assumption,h'⟩,fun h'=>h'.2⟩
 ·refine dI (p:=Ad t) ?_
  unfold Ad
  rw [if_neg (by rw [h];simp),decide_eq_true_eq]
  exact ⟨fun h'=>⟨by assumption,h'⟩,fun h'=>h'.2⟩

/-! What lacks, and what is kept. -/
noncomputable def tE (t:Tu)(s:List Pk):List Pk:=if t.has=true then s.filter (fun p=>decide (gN p∈t.x.ms)) else []
noncomputable def fX (t:Tu)(s:List Pk):List Pk:=if Ad t∧jG s then tE t s else []
theorem LB {α:Type}[Inhabited α](P:α→Bool)(l:List α){i:Int}(h0:0≤i)(h1:i<l.length):(l.take (i+1).toNat).filter P=(l.take i.toNat).filter P++if P (ix l i)=true then [ix l i] else []:=by
 rw [gY l h0 h1,List.filter_append]
 congr 1
 by_cases h:P (ix l i)=true<;>simp [h]
end
section
open Classical
variable {W:Wld}

def Pd (n v:Int)(p:Pk):Prop:=p.name=n∧p.ver=v
theorem Jn (ps:List Pk)(hl:ps.length≤lim)(n v:Int):FunOk PP W kQ eF [bN ps,i64 n,i64 v] [i64 (oS (Pd n v) ps ps.length 0)]:=by
 refine zH (aU ?_)
 unfold lim at hl
 refine aY rfl (fun i:Int=>0≤i∧i≤ps.length∧oS (Pd n v) ps ps.length 0=oS (Pd n v) ps (ps.length - i).toNat i) (fun i=>[(7,.val (i64 i)),(0,.val (bN ps)),(1,.val (i64 n)),(2,.val (i64 v))]) (fun i=>(ps.length - i).toNat) 0 ⟨by omega,by omega,by simp⟩ ⟨rfl,rfl,rfl,rfl,trivial⟩ rfl ?_
 rintro i e ⟨h0,hN,hP⟩
 have hs:i<ps.length→oS (Pd n v) ps ps.length 0=if Pd n v (ix ps i) then i else oS (Pd n v) ps (ps.length - (i+1)).toNat (i+1):=fun h=>by
  rw [hP,show ((ps.length:Int) - i).toNat=((ps.length:Int) - (i+1)).toNat+1 by omega,oS]
 have hz:¬i<ps.length→oS (Pd n v) ps ps.length 0= -1:=fun h=>by
  rw [hP,show ((ps.length:Int) - i).toNat=0 by omega,oS]
 (repeat' first
  | (refine run_ite rfl (fun h=>?_) (fun h=>?_)<;>(try simp (disch:=omega) only [zB,eqDs,bM,Nat.reduceAdd,aA] at h)<;>(try (exfalso;omega)))
  | refine aI rfl ?_
  | refine aJ rfl ?_
  | (refine aS rfl (Exists.intro (i+1) ⟨by omega,⟨by omega,by omega,?_⟩,aX (aA _ (by omega)),rfl,rfl,rfl,trivial⟩))
  | refine aB rfl ?_ ?_
  | (refine aG rfl ?_;first | refine rb ?_ | refine ri ?_ | refine bV ?_ ?_ | refine cE ?_)
  | refine aD rfl ?_)
 ·rw [hs (by omega),if_pos ⟨by assumption,h⟩]
 ·rw [hs (by omega),if_neg (fun h'=>h h'.2)]
 ·rw [hs (by omega),if_neg (fun h'=>h h'.1)]
 ·rw [hz (by omega)]
theorem NU {ps:List Pk}(h:jG ps):∀ (n:Nat) (i j:Int),(j - i).toNat=n→0≤i→i<j→j<ps.length→bH (ix ps i) (ix ps j)
 | 0,i,j,hn,_,hij,_=>by omega
 | n+1,i,j,hn,h0,hij,hj=>by
  have hs:=(h j (by omega) hj).2 (by omega)
  by_cases e:i=j - 1
  ·rw [e];exact hs
  ·have:=NU h n i (j - 1) (by omega) h0 (by omega) (by omega)
   unfold bH at *
   omega
/-! Nothing that lacks is kept; what lacks and what is kept are all that is told of. -/
theorem Pe {α:Type}[Inhabited α]{R:α→α→Prop}{l:List α}(h:∀ i j:Int,0≤i→i<j→j<l.length→R (ix l i) (ix l j)):l.Pairwise R:=by
 rw [List.pairwise_iff_getElem]
 intro i j hi hj hij
 have:=h i j (by omega) (by omega) (by omega)
 simpa [ix,hi,hj] using this
end
section
open Classical
variable {W:Wld}

theorem Pf (b:List Int)(hb:Kv b)(p:Int)(hp:0≤p∧p<800000000):∃ outs,(∃ ks p',outs=[Mo ks,eX b p']∧ks.length≤7∧p≤p'∧p'≤p+10)∧FunOk PP W rL iN [eX b p] outs:=by
 obtain ⟨outs,h1,h2⟩:=dZ (Φ:=FunOk PP W) (p:=p_s_l71Keys) (ins:=[eX b p]) (G:=fun outs=>∃ ks p',outs=[Mo ks,eX b p']∧ks.length≤7∧p≤p'∧p'≤p+10) (by
  refine aY rfl (fun x:Int×Int×List Int=>(1≤x.1∧x.1≤7)∧(p≤x.2.1∧x.2.1≤p+x.1)∧(x.2.2.length:Int)≤x.1 - 1) (fun x=>[(4,.val (i64 x.1)),(0,.val (eX b x.2.1)),(3,.val (Mo x.2.2))]) (fun x=>(7 - x.1).toNat) (1,p,[]) ⟨by dsimp only;omega,by dsimp only;omega,by simp⟩ ⟨rfl,rfl,rfl,trivial⟩ rfl ?_
  rintro ⟨n,r,ks⟩ e ⟨g0,g1,g2⟩
  dsimp only at g0 g1 g2 ⊢
  (repeat' first
  | (refine run_ite rfl (fun h=>?_) (fun h=>?_)<;>(try simp (disch:=omega) only [zB,eqDs,bM,Nat.reduceAdd,aA] at h)<;>(try (exfalso;omega)))
  | refine aI rfl ?_
  | refine aJ rfl ?_
  | (refine aW rfl (eO b hb _ _ (by first | omega | (simp only [List.length_map];omega)) (by first | omega | (simp only [List.length_map];omega) | (simp;done))) rfl (fun outs hG=>?_);obtain ⟨v,rfl,hv0,hv1⟩:=hG;(try simp only [List.length_map] at hv1);refine ⟨[i64 v],[eX b _],rfl,rfl,rfl,?_⟩)
  | (refine aB rfl (gO (enc:=i64) (xs:=[0,7,1]) (by omega) (by simp;omega) (fun _=>rfl)) ?_)
  | (refine aB rfl (gP (enc:=i64) (xs:=[0,7,1]) (by omega) (by simp;omega) (fun _=>rfl)) ?_)
  | (refine aS rfl (Exists.intro (n+1,r+1,ks++[n]) ⟨by dsimp only;omega,⟨by dsimp only;omega,by dsimp only;omega,by simp;omega⟩,aX (aA _ (by omega)),rfl,jA (by rw [List.map_append];rfl),trivial⟩))
  | (refine aS rfl (Exists.intro (n+1,r+1,ks) ⟨by dsimp only;omega,⟨by dsimp only;omega,by dsimp only;omega,by dsimp only;omega⟩,aX (aA _ (by omega)),rfl,rfl,trivial⟩))
  | refine aB rfl ?_ ?_
  | (refine aG rfl ?_;first | refine rb ?_ | refine ri ?_ | refine bV ?_ ?_ | refine cE ?_)
  | refine aD rfl ?_)
  ·exact ⟨ks++[cI [[D.int .i64 0],[D.int .i64 7],[D.int .i64 1]] v 0],_,bV (jA (by rw [List.map_append];rfl)) rfl,by simp;omega,by omega,by omega⟩
  ·exact ⟨ks,_,rfl,by omega,by omega,by omega⟩)
 exact ⟨outs,h1,GQ h2⟩

set_option maxHeartbeats 2000000 in
theorem Pg (b:List Int)(hb:Kv b)(p:Int)(hp:0≤p∧p<700000000):∃ outs,(∃ r p',outs=[SX r,eX b p']∧r.keys.length≤7∧p≤p'∧p'≤p+20)∧FunOk PP W rJ iM [eX b p] outs:=by
 obtain ⟨outs,h1,h2⟩:=dZ (Φ:=FunOk PP W) (p:=p_s_l71Root) (ins:=[eX b p]) (G:=fun outs=>∃ r p',outs=[SX r,eX b p']∧r.keys.length≤7∧p≤p'∧p'≤p+20) (by
  refine aW rfl (Pf b hb p (by omega)) rfl (fun outs hG=>?_)
  obtain ⟨ks,q,rfl,hk,q0,q1⟩:=hG
  refine ⟨[Mo ks],[eX b q],rfl,rfl,rfl,?_⟩
  (repeat' first
  | (refine run_ite rfl (fun h=>?_) (fun h=>?_)<;>(try simp (disch:=omega) only [zB,eqDs,bM,Nat.reduceAdd,aA] at h)<;>(try (exfalso;omega)))
  | refine aI rfl ?_
  | refine aJ rfl ?_
  | (refine aW rfl (eO b hb _ _ (by first | omega | (simp only [List.length_map];omega)) (by first | omega | (simp only [List.length_map];omega) | (simp;done))) rfl (fun outs hG=>?_);obtain ⟨v,rfl,hv0,hv1⟩:=hG;(try simp only [List.length_map] at hv1);refine ⟨[i64 v],[eX b _],rfl,rfl,rfl,?_⟩)
  | (refine aB rfl (gO (enc:=i64) (xs:=[0,9,10]) (by omega) (by simp;omega) (fun _=>rfl)) ?_)
  | (refine aB rfl (gP (enc:=i64) (xs:=[0,9,10]) (by omega) (by simp;omega) (fun _=>rfl)) ?_)
  | (refine aB rfl (gO (enc:=i64) (xs:=[0,_]) (by omega) (by simp;omega) (fun _=>rfl)) ?_)
  | (refine aB rfl (gP (enc:=i64) (xs:=[0,_]) (by omega) (by simp;omega) (fun _=>rfl)) ?_)
  | refine aB rfl ?_ ?_
  | (refine aG rfl ?_;first | refine rb ?_ | refine ri ?_ | refine bV ?_ ?_ | refine cE ?_)
  | refine aD rfl ?_)
  all_goals first
   | exact ⟨⟨_,ks,_⟩,_,rfl,hk,by omega,by omega⟩
   | exact ⟨⟨_,[_],_⟩,_,rfl,by simp,by omega,by omega⟩)
 exact ⟨outs,h1,GO h2⟩

theorem CU (n u:Int)(ps:List Pk)(hs:jI ps)(hl:ps.length≤900):∃ outs,(∃ x ok,outs=[AN x,bo ok]∧x.ms.length≤900)∧FunOk PP W nK fN [i64 n,i64 u,bN ps] outs:=by
 obtain ⟨outs,h1,h2⟩:=dZ (Φ:=FunOk PP W) (p:=p_s_IndexOf) (ins:=[i64 n,i64 u,bN ps]) (G:=fun outs=>∃ x ok,outs=[AN x,bo ok]∧x.ms.length≤900) (by
  (repeat' first
  | (refine run_ite rfl (fun h=>?_) (fun h=>?_)<;>(try simp (disch:=omega) only [zB,eqDs,bM,Nat.reduceAdd,aA] at h)<;>(try (exfalso;omega)))
  | refine aI rfl ?_
  | refine aJ rfl ?_
  | refine aE rfl (Dl ps hs) rfl ?_
  | refine aB rfl ?_ ?_
  | (refine aG rfl ?_;first | refine rb ?_ | refine ri ?_ | refine bV ?_ ?_ | refine cE ?_)
  | refine aD rfl ?_)
  ·exact ⟨NO,false,rfl,by simp [NO]⟩
  refine aY rfl (fun i:Int=>0≤i∧i≤ps.length) (fun i=>[(9,.val (i64 i)),(8,.val (AN ⟨n,u,(ps.take i.toNat).map gN⟩)),(2,.val (bN ps)),(6,.val (AN NO))]) (fun i=>(ps.length - i).toNat) 0 ⟨by omega,by omega⟩ ⟨rfl,rfl,rfl,rfl,trivial⟩ rfl ?_
  rintro i e ⟨h0,hN⟩
  have hle:((ps.take i.toNat).map gN).length≤i.toNat:=by rw [List.length_map,List.length_take];omega
  by_cases hi:i<ps.length
  ·have hsm:=nM hs h0 hi
   (repeat' first
  | (refine run_ite rfl (fun h=>?_) (fun h=>?_)<;>(try simp (disch:=omega) only [zB,eqDs,bM,Nat.reduceAdd,aA] at h)<;>(try (exfalso;omega)))
  | refine aI rfl ?_
  | refine aJ rfl ?_
  | refine lB rfl (nN (ix ps i) hsm) rfl ?_
  | refine lB rfl (xT (textM (ix ps i)) (Nat.le_trans (mA _) (by omega))) rfl ?_
  | (refine aS rfl (Exists.intro (i+1) ⟨by omega,⟨by omega,by omega⟩,aX (aA _ (by omega)),?_,rfl,rfl,trivial⟩))
  | refine aB rfl ?_ ?_
  | (refine aG rfl ?_;first | refine rb ?_ | refine ri ?_ | refine bV ?_ ?_ | refine cE ?_)
  | refine aD rfl ?_)
   refine Eq.trans (b:=[.int .i64 n,.int .i64 u,.sl (((ps.take i.toNat).map gN).map Ht++[[.int .i64 (cI (ps.map ePk) i 0),.int .i64 (cI (ps.map ePk) i 1),.int .i64 (uC (textM (ix ps i)))]])]) rfl ?_
   show _=([.int .i64 n,.int .i64 u,.sl (((ps.take (i+1).toNat).map gN).map Ht)]:List D)
   rw [Jc,Jd,gY ps h0 hi,List.map_append,List.map_append]
   rfl
  ·have ht:ps.take i.toNat=ps:=List.take_of_length_le (by omega)
   rw [ht] at hle ⊢
   (repeat' first
  | (refine run_ite rfl (fun h=>?_) (fun h=>?_)<;>(try simp (disch:=omega) only [zB,eqDs,bM,Nat.reduceAdd,aA] at h)<;>(try (exfalso;omega)))
  | refine aI rfl ?_
  | refine aJ rfl ?_
  | refine aE rfl (zS ⟨n,u,ps.map gN⟩ (by rw [List.length_map];unfold lim;omega)) rfl ?_
  | refine aB rfl ?_ ?_
  | (refine aG rfl ?_;first | refine rb ?_ | refine ri ?_ | refine bV ?_ ?_ | refine cE ?_)
  | refine aD rfl ?_)
   ·exact ⟨NO,false,rfl,by simp [NO]⟩
   ·exact ⟨⟨n,u,ps.map gN⟩,true,rfl,by simp;omega⟩)
 exact ⟨outs,h1,GI h2⟩
theorem NV (b:List Int)(hb:Kv b)(p:Int)(hp:0≤p∧p<700000000):∃ outs,(∃ x p',outs=[AN x,eX b p']∧x.ms.length≤901∧p≤p'∧p'≤p+400)∧FunOk PP W pS gH [eX b p] outs:=by
 obtain ⟨outs,h1,h2⟩:=dZ (Φ:=FunOk PP W) (p:=p_s_l71Index) (ins:=[eX b p]) (G:=fun outs=>∃ x p',outs=[AN x,eX b p']∧x.ms.length≤901∧p≤p'∧p'≤p+400) (by
  (repeat' first
  | (refine run_ite rfl (fun h=>?_) (fun h=>?_)<;>(try simp (disch:=omega) only [zB,eqDs,bM,Nat.reduceAdd,aA] at h)<;>(try (exfalso;omega)))
  | refine aI rfl ?_
  | refine aJ rfl ?_
  | (refine aW rfl (eO b hb _ _ (by first | omega | (simp only [List.length_map];omega)) (by first | omega | (simp only [List.length_map];omega) | (simp;done))) rfl (fun outs hG=>?_);obtain ⟨v,rfl,hv0,hv1⟩:=hG;(try simp only [List.length_map] at hv1);refine ⟨[i64 v],[eX b _],rfl,rfl,rfl,?_⟩)
  | (refine aB rfl (gO (enc:=i64) (xs:=[0,30,31]) (by omega) (by simp;omega) (fun _=>rfl)) ?_)
  | (refine aB rfl (gP (enc:=i64) (xs:=[0,30,31]) (by omega) (by simp;omega) (fun _=>rfl)) ?_)
  | (refine aB rfl (gO (enc:=i64) (xs:=[-1,60,61]) (by omega) (by simp;omega) (fun _=>rfl)) ?_)
  | (refine aB rfl (gP (enc:=i64) (xs:=[-1,60,61]) (by omega) (by simp;omega) (fun _=>rfl)) ?_)
  | (refine aW rfl (Ex b hb _ (by omega)) rfl (fun outs hG=>?_);obtain ⟨ps,q,rfl,hq1,hq2,hq3,hq4⟩:=hG;refine ⟨[bN ps],[eX b q],rfl,rfl,rfl,?_⟩)
  | (refine aW rfl (CU _ _ ps (oT hq1 (by omega)) (by omega)) rfl (fun outs hG=>?_);obtain ⟨x,ok,rfl,hx⟩:=hG;refine ⟨[AN x,bo ok],[],rfl,rfl,rfl,?_⟩)
  | refine aB rfl ?_ ?_
  | (refine aG rfl ?_;first | refine rb ?_ | refine ri ?_ | refine bV ?_ ?_ | refine cE ?_)
  | refine aD rfl ?_)
  ·exact ⟨⟨_,x.till,x.ms⟩,q+1+1,rfl,by dsimp only;omega,by omega,by omega⟩
  ·exact ⟨⟨x.num,cI [[D.int .i64 (-1)],[D.int .i64 60],[D.int .i64 61]] v 0,x.ms⟩,q+1+1,rfl,by dsimp only;omega,by omega,by omega⟩
  ·exact ⟨⟨x.num,x.till,x.ms++[⟨_,_,_⟩]⟩,_,bV (by dsimp only [AN];rw [List.map_append];rfl) rfl,by rw [List.length_append];simp only [List.length_cons,List.length_nil];omega,by omega,by omega⟩
  ·exact ⟨x,_,rfl,by omega,by omega,by omega⟩)
 exact ⟨outs,h1,Eh h2⟩

theorem NW (b:List Int)(hb:Kv b)(p:Int)(hp:0≤p∧p<600000000):∃ outs,(∃ t ps p',outs=[Jl t,bN ps,eX b p']∧PY t∧Dp ps∧ps.length≤7∧p≤p'∧p'≤p+1000)∧FunOk PP W pO gK [eX b p] outs:=by
 obtain ⟨outs,h1,h2⟩:=dZ (Φ:=FunOk PP W) (p:=p_s_l71Trust) (ins:=[eX b p]) (G:=fun outs=>∃ t ps p',outs=[Jl t,bN ps,eX b p']∧PY t∧Dp ps∧ps.length≤7∧p≤p'∧p'≤p+1000) (by
  (repeat' first
  | (refine run_ite rfl (fun h=>?_) (fun h=>?_)<;>(try simp (disch:=omega) only [zB,eqDs,bM,Nat.reduceAdd,aA] at h)<;>(try (exfalso;omega)))
  | refine aI rfl ?_
  | refine aJ rfl ?_
  | (refine aW rfl (eO b hb _ _ (by first | omega | (simp only [List.length_map];omega)) (by first | omega | (simp only [List.length_map];omega) | (simp;done))) rfl (fun outs hG=>?_);obtain ⟨v,rfl,hv0,hv1⟩:=hG;(try simp only [List.length_map] at hv1);refine ⟨[i64 v],[eX b _],rfl,rfl,rfl,?_⟩)
  | (refine aW rfl (Pg b hb _ (by omega)) rfl (fun outs hG=>?_);obtain ⟨r,q,rfl,hr,hq3,hq4⟩:=hG;refine ⟨[SX r],[eX b q],rfl,rfl,rfl,?_⟩)
  | (refine aW rfl (Ex b hb _ (by omega)) rfl (fun outs hG=>?_);obtain ⟨ps,q,rfl,hq1,hq2,hq3,hq4⟩:=hG;refine ⟨[bN ps],[eX b q],rfl,rfl,rfl,?_⟩)
  | (refine aW rfl (NV b hb _ (by omega)) rfl (fun outs hG=>?_);obtain ⟨x,q,rfl,hx,hq3,hq4⟩:=hG;refine ⟨[AN x],[eX b q],rfl,rfl,rfl,?_⟩)
  | (refine aW rfl (CU _ _ ps (oT hq1 (by omega)) (by omega)) rfl (fun outs hG=>?_);obtain ⟨x,ok,rfl,hx⟩:=hG;refine ⟨[AN x,bo ok],[],rfl,rfl,rfl,?_⟩)
  | refine aB rfl ?_ ?_
  | (refine aG rfl ?_;first | refine rb ?_ | refine ri ?_ | refine bV ?_ ?_ | refine cE ?_)
  | refine aD rfl ?_)
  ·exact ⟨⟨r,_,x⟩,ps,_,rfl,⟨by dsimp only;omega,by dsimp only;omega⟩,hq1,hq2,by omega,by omega⟩
  ·exact ⟨⟨r,_,x⟩,ps,_,rfl,⟨by dsimp only;omega,by dsimp only;omega⟩,hq1,hq2,by omega,by omega⟩
  ·exact ⟨⟨r,_,x⟩,ps,_,rfl,⟨by dsimp only;omega,by dsimp only;omega⟩,hq1,hq2,by omega,by omega⟩
  ·exact ⟨⟨r,_,NO⟩,ps,_,rfl,⟨by dsimp only;omega,by simp [NO]⟩,hq1,hq2,by omega,by omega⟩
  ·exact ⟨⟨r,_,x⟩,ps,_,rfl,⟨by dsimp only;omega,by dsimp only;omega⟩,hq1,hq2,by omega,by omega⟩
  ·exact ⟨⟨r,_,NO⟩,ps,_,rfl,⟨by dsimp only;omega,by simp [NO]⟩,hq1,hq2,by omega,by omega⟩)
 exact ⟨outs,h1,En h2⟩

theorem Ph (b:List Int)(hb:Kv b)(p:Int)(hp:0≤p∧p<600000000)(ps:List Pk)(hs:jI ps)(hl:ps.length≤7):∃ outs,(∃ s p',outs=[bN s,eX b p']∧jI s∧s.length≤8∧p≤p'∧p'≤p+500)∧FunOk PP W rH iQ [eX b p,bN ps] outs:=by
 obtain ⟨outs,h1,h2⟩:=dZ (Φ:=FunOk PP W) (p:=p_s_l71Some) (ins:=[eX b p,bN ps]) (G:=fun outs=>∃ s p',outs=[bN s,eX b p']∧jI s∧s.length≤8∧p≤p'∧p'≤p+500) (by
  refine aY rfl (fun x:Int×Int×List Pk=>(0≤x.1∧x.1≤ps.length)∧(p≤x.2.1∧x.2.1≤p+x.1)∧(x.2.2.length:Int)≤x.1∧∀ q∈x.2.2,q∈ps) (fun x=>[(6,.val (i64 x.1)),(0,.val (eX b x.2.1)),(5,.val (bN x.2.2)),(1,.val (bN ps))]) (fun x=>(ps.length - x.1).toNat) (0,p,[]) ⟨by dsimp only;omega,by dsimp only;omega,by simp,by intro q hq;cases hq⟩ ⟨rfl,rfl,rfl,rfl,trivial⟩ rfl ?_
  rintro ⟨n,r,l⟩ e ⟨g0,g1,g2,g3⟩
  dsimp only at g0 g1 g2 g3 ⊢
  by_cases hi:n<ps.length
  ·(repeat' first
  | (refine run_ite rfl (fun h=>?_) (fun h=>?_)<;>(try simp (disch:=omega) only [zB,eqDs,bM,Nat.reduceAdd,aA] at h)<;>(try (exfalso;omega)))
  | refine aI rfl ?_
  | refine aJ rfl ?_
  | (refine aW rfl (eO b hb _ _ (by first | omega | (simp only [List.length_map];omega)) (by first | omega | (simp only [List.length_map];omega) | (simp;done))) rfl (fun outs hG=>?_);obtain ⟨v,rfl,hv0,hv1⟩:=hG;(try simp only [List.length_map] at hv1);refine ⟨[i64 v],[eX b _],rfl,rfl,rfl,?_⟩)
  | (refine aS rfl (Exists.intro (n+1,r+1,l++[ix ps n]) ⟨by dsimp only;omega,⟨by dsimp only;omega,by dsimp only;omega,by simp;omega,fun q hq=>(List.mem_append.1 hq).elim (g3 q) (fun h'=>by rw [List.mem_singleton.1 h'];exact mJ g0.1 hi)⟩,aX (aA _ (by omega)),rfl,jA (by rw [List.map_append];simp only [zB,eqDs,bM,Nat.reduceAdd];rfl),rfl,trivial⟩))
  | (refine aS rfl (Exists.intro (n+1,r+1,l) ⟨by dsimp only;omega,⟨by dsimp only;omega,by dsimp only;omega,by dsimp only;omega,g3⟩,aX (aA _ (by omega)),rfl,rfl,rfl,trivial⟩))
  | refine aB rfl ?_ ?_
  | (refine aG rfl ?_;first | refine rb ?_ | refine ri ?_ | refine bV ?_ ?_ | refine cE ?_)
  | refine aD rfl ?_)
  ·(repeat' first
  | (refine run_ite rfl (fun h=>?_) (fun h=>?_)<;>(try simp (disch:=omega) only [zB,eqDs,bM,Nat.reduceAdd,aA] at h)<;>(try (exfalso;omega)))
  | refine aI rfl ?_
  | refine aJ rfl ?_
  | (refine aW rfl (eO b hb _ _ (by first | omega | (simp only [List.length_map];omega)) (by first | omega | (simp only [List.length_map];omega) | (simp;done))) rfl (fun outs hG=>?_);obtain ⟨v,rfl,hv0,hv1⟩:=hG;(try simp only [List.length_map] at hv1);refine ⟨[i64 v],[eX b _],rfl,rfl,rfl,?_⟩)
  | (refine aW rfl (Ra b hb _ (by omega)) rfl (fun outs hG=>?_);obtain ⟨s,q,rfl,hs1,hs2,hq3,hq4⟩:=hG;refine ⟨[bN s],[eX b q],rfl,rfl,rfl,?_⟩)
  | refine aB rfl ?_ ?_
  | (refine aG rfl ?_;first | refine rb ?_ | refine ri ?_ | refine bV ?_ ?_ | refine cE ?_)
  | refine aD rfl ?_)
   ·exact ⟨s,_,rfl,hs1,hs2,by omega,by omega⟩
   ·exact ⟨l,_,rfl,⟨by unfold lim;omega,fun q hq=>hs.2 q (g3 q hq)⟩,by omega,by omega,by omega⟩)
 exact ⟨outs,h1,Gc h2⟩
def NX (b:List Int):Prop:=b.length≤1048576∧∀ x∈b,0≤x∧x≤255
theorem LC {b:List Int}(h:NX b):Kv (b.take 2000):=⟨by rw [List.length_take];omega,fun x hx=>h.2 x (List.mem_of_mem_take hx)⟩
end
end V
end Go.Proofs.YtmgpamcpdblckaaGreatDoor

/-
Plain proofs: what slices.Insert does with one element that is put into a list.
-/
namespace Go.Proofs.YtmgpamcpdblckaaGreatDoor
open Go.RowKit
set_option maxRecDepth 100000
set_option maxHeartbeats 4000000

def fG (cur:Array Value)(o:Nat)(cs:List Value):Array Value:=(cur.toList.take o++cs++cur.toList.drop (o+cs.length)).toArray
theorem rV {cur:Array Value}{o:Nat}{cs:List Value}(h:o+cs.length≤cur.size)(k:Nat):(fG cur o cs)[k]? =if k<o then cur[k]? else if k<o+cs.length then cs[k - o]? else cur[k]? :=by
 unfold fG
 rw [List.getElem?_toArray,V.splice_get (by simpa using h)]
 simp
theorem dP {cur:Array Value}{o:Nat}{cs:List Value}(h:o+cs.length≤cur.size):(fG cur o cs).size=cur.size:=by
 have:=V.splice_len (c:=cur.toList) (xs:=cs) (off:=o) (by simpa using h)
 simpa [fG] using this

theorem kG {P:Program}(w:World)(dT sT ty elem:TypeId){i:TypeInfo}(g o dLen dCap:Nat)(a:Addr)(sLen sCap:Nat)(cur:Array Value)(t:TypeId)(fr:Nat×Nat)(cs:List Value)
  (hu:P.underlying dT=some (.slice elem))(hi:P.info? elem=some i)
  (hg:w.heap[g]? =some (.cells cur t fr))(hn:cs.length=Nat.min sLen dLen*i.size)
  (hsrc:∀ (j:Nat) (v:Value),cs[j]? =some v→w.cell? (a.add j)=some v)(hfit:o+cs.length≤cur.size)(hfr:∀ k,o≤k→k<o+cs.length→(fr.1≤k&&k<fr.2)=false)(h1:∀ v∈cs,v.oneCell'=true):
  (Builtin.copy_ #[dT,sT] ty #[.slice (some ⟨g,o,none⟩) dLen dCap,.slice (some a) sLen sCap]).run P w=
   .ok (goInt (Nat.min sLen dLen)) (w.setRow g (fG cur o cs)):=by
 have hl:=run_loadCells_list (P:=P) w a cs hsrc
 have hst:=V.run_storeCells_fr P g o t fr cs 0 cur w hg (fun k h2 h3=>hfr k (by omega) (by omega)) (by simpa using hfit) h1
 simp only [Nat.add_zero] at hst
 simp [Builtin.copy_,run_underlying hu,Builtin.lenOf,Builtin.firstCells,sizeOf,typeInfo,hi,←hn,hl,hst,fG]

theorem gV:Tryz.prog.underlying 31=some (.slice 41):=by kernel_rfl
theorem vY:∃ i z,Tryz.prog.info? 41=some i∧i.zero=some z∧i.size=4∧i.bytes=64∧z.cells.size=4:=by
 have h:(Tryz.prog.info? 41).bind (fun i=>i.zero.map fun z=>(i.size,i.bytes,z.cells.size))=some (4,64,4):=by kernel_rfl
 cases hi:Tryz.prog.info? 41 with
 | none=>rw [hi] at h;cases h
 | some i=>
  rw [hi] at h
  simp only [Option.bind_some] at h
  obtain ⟨z,hz,h⟩:=Option.map_eq_some_iff.1 h
  simp only [Prod.mk.injEq] at h
  exact ⟨i,z,rfl,hz,h.1,h.2.1,h.2.2⟩
theorem Pi (w:World):(Go.sizeOf 41).run Tryz.prog w= .ok 4 w:=by
 obtain ⟨i,z,h1,_,h2,_⟩:=vY
 simp [sizeOf,typeInfo,h1,h2]

theorem LD (w:World)(g n c i gv vc:Nat)(cur curv:Array Value)(T Tv:TypeId)(fr frv:Nat×Nat)(mid vs:List Value)(hi:i<n)(hroom:n+1≤c)(hc63:c≤9223372036854775807)(hne:gv≠g)
  (hg:w.heap[g]? =some (.cells cur T fr))(hgv:w.heap[gv]? =some (.cells curv Tv frv))(hcs:c*4≤cur.size)(hfr:∀ o,(fr.1≤o&&o<fr.2)=false)(hfv:∀ o,(frv.1≤o&&o<frv.2)=false)
  (hvs:vs.length=4)(hvc:∀ (j:Nat) (v:Value),vs[j]? =some v→curv[j]? =some v)(h1v:∀ v∈vs,v.oneCell'=true)
  (hml:mid.length=(n - i)*4)(hmc:∀ (j:Nat) (v:Value),mid[j]? =some v→cur[i*4+j]? =some v)(h1m:∀ v∈mid,v.oneCell'=true):
  Calls Tryz.prog 107 #[.slice (some ⟨g,0,none⟩) n c,.int .i64 i,.slice (some ⟨gv,0,none⟩) 1 vc] w fun e w'=>
   e= .returned (.slice (some ⟨g,0,none⟩) (n+1) c)∧w'=w.drew.setRow g (fG (fG cur ((i+1)*4) mid) (i*4) vs):=by
 obtain ⟨ti,tz,ti1,ti2,ti3,ti4,ti5⟩:=vY
 have hz2:¬((i:Int)=(n:Int)):=by omega
 have hov:∀ lb cb,(callFunc 138 #[.slice (some ⟨gv,0,none⟩) 1 vc,.slice (some ⟨g,(i+1)*4,none⟩) lb cb]).run Tryz.prog w= .ok (.value (.bool false)) w:=fun lb cb=>by
  rw [run_callFunc_extern Tryz.func138 (by kernel_rfl) (by kernel_rfl) (by kernel_rfl) (e:=Extern.SlicesOverlaps.overlaps #[31,31] #[4]) (by kernel_rfl),
   Lib.run_overlaps_apart w 31 4 41 gV 4 Pi ⟨gv,0,none⟩ ⟨g,(i+1)*4,none⟩ 1 vc lb cb hne Tv T curv.size cur.size (by simp [World.shape?,hgv]) (by simp [World.shape?,hg]) (by omega) (by simp only [World.frozen?,hgv];exact hfv _) (by simp only [World.frozen?,hgv];exact hfv _)]
  rfl
 have hmn:(i+1)*4+mid.length≤cur.size:=by omega
 have hg0:w.drew.heap[g]? =some (.cells cur T fr):=hg
 have hcp1:∀ ty dc sc,(Builtin.copy_ #[31,31] ty #[.slice (some ⟨g,(i+1)*4,none⟩) (n+1 - (i+1)) dc,.slice (some ⟨g,i*4,none⟩) (n+1 - i) sc]).run Tryz.prog w.drew= .ok (goInt ((n - i:Nat):Int)) (w.drew.setRow g (fG cur ((i+1)*4) mid)):=fun ty dc sc=>by
  have hm:Nat.min (n+1 - i) (n+1 - (i+1))=n - i:=by simp only [Nat.min_def];split<;>omega
  have:=kG (P:=Tryz.prog) w.drew 31 31 ty 41 g ((i+1)*4) (n+1 - (i+1)) dc ⟨g,i*4,none⟩ (n+1 - i) sc cur T fr mid gV ti1 hg0 (by rw [hm,ti3];exact hml)
   (fun j v hj=>by rw [Addr.add_lit];simp only [World.cell?,hg0];exact hmc j v hj) hmn (fun k _ _=>hfr k) h1m
  rw [hm] at this
  exact this
 have hg1:=setRow_heap w.drew g cur (fG cur ((i+1)*4) mid) T fr hg0
 have hgv1:(w.drew.setRow g (fG cur ((i+1)*4) mid)).heap[gv]? =some (.cells curv Tv frv):=(setRow_other w.drew g gv _ hne).trans hgv
 have hcp2:∀ ty dc sc,(Builtin.copy_ #[31,31] ty #[.slice (some ⟨g,i*4,none⟩) (n+1 - i) dc,.slice (some ⟨gv,0,none⟩) 1 sc]).run Tryz.prog (w.drew.setRow g (fG cur ((i+1)*4) mid))= .ok (goInt 1) (w.drew.setRow g (fG (fG cur ((i+1)*4) mid) (i*4) vs)):=fun ty dc sc=>by
  have hm:Nat.min 1 (n+1 - i)=1:=by simp only [Nat.min_def];split<;>omega
  have:=kG (P:=Tryz.prog) _ 31 31 ty 41 g (i*4) (n+1 - i) dc ⟨gv,0,none⟩ 1 sc _ T fr vs gV ti1 hg1 (by rw [hm,ti3];exact hvs)
   (fun j v hj=>by rw [Addr.add_lit];simp only [World.cell?,hgv1,Nat.zero_add];exact hvc j v hj) (by rw [dP hmn];omega) (fun k _ _=>hfr k) h1v
  rw [hm,setRow_setRow] at this
  exact this
 clear ti1 ti2 ti3 ti4 ti5
 have hin:i≤n:=by omega
 have hw1:IntKind.i64.wrap ((i:Int)+1)=(i:Int)+1:=by rw [IntKind.wrap_i64];omega
 have hb1:(0:Int)≤(i:Int)+1:=by omega
 have htn:((i:Int)+1).toNat=i+1:=by omega
 have hb2:¬(c=i+1):=by omega
 have hb3:(i:Int)≤(n:Int)+1:=by omega
 have hb4:¬(c=i):=by omega
 have mixed:Tryz.prog.follows .mixedOrders=true:=V.mixed
 go_enter Tryz.func107,Tryz.ntmps107
 go_wp2_with (simp only [hov])
 go_region_law_o (refine step_copy_runI rfl _ _ 31 31 rfl (.slice (some ⟨g,(i+1)*4,none⟩) (n+1 - (i+1)) (c - (i+1))) (.slice (some ⟨g,i*4,none⟩) (n+1 - i) (c - i)) (by simp [Act.eval,Act.put]) (by simp [Act.eval,Act.put]) (hcp1 _ _ _) ?_)
 go_wp2_with (at_builtin;refine wpList_copy_runI _ rfl _ _ 31 31 rfl (.slice (some ⟨g,i*4,none⟩) (n+1 - i) (c - i)) (.slice (some ⟨gv,0,none⟩) 1 vc) rfl rfl (hcp2 _ _ _) ?_)
 go_ret
 exact ⟨rfl,rfl⟩

structure NewRow (w w':World) (row:Array Value):Prop where
 os:w'.os=w.os
 tape:w'.tape=w.tape
 output:w'.output=w.output
 size:w'.heap.size=w.heap.size+1
 same:∀ k,k<w.heap.size→w'.heap[k]? =w.heap[k]?
 new:w'.heap[w.heap.size]? =some (.cells row 41 (0,0))

theorem vZ (w:World)(row:Array Value):NewRow w (w.drew.alloc (.cells row 41)) row:=
 ⟨rfl,rfl,rfl,by show (w.heap.push _).size=_;simp,fun k hk=>heap_alloc_old w.drew _ hk,heap_alloc_new w.drew _⟩
theorem NewRow.drew {w w':World}{row:Array Value}(h:NewRow w w' row):NewRow w w'.drew row:=⟨h.os,h.tape,h.output,h.size,h.same,h.new⟩
theorem NewRow.set {w w':World}{row:Array Value}(h:NewRow w w' row)(row':Array Value):NewRow w (w'.setRow w.heap.size row') row':=
 ⟨h.os,h.tape,h.output,by simp [World.setRow,h.size],fun k hk=>(setRow_other w' _ k _ (by omega)).trans (h.same k hk),setRow_heap w' _ _ _ _ _ h.new⟩

theorem NY (w:World)(g n c i gv vc:Nat)(cur curv:Array Value)(T Tv:TypeId)(fr frv:Nat×Nat)(pre mid vs:List Value)(hi:i<n)(hnc:n≤c)(hroom:c<n+1)(hbig:(n+1)*64≤140737488355328)
  (hg:w.heap[g]? =some (.cells cur T fr))(hgv:w.heap[gv]? =some (.cells curv Tv frv))
  (hvs:vs.length=4)(hvc:∀ (j:Nat) (v:Value),vs[j]? =some v→curv[j]? =some v)(h1v:∀ v∈vs,v.oneCell'=true)
  (hml:mid.length=(n - i)*4)(hmc:∀ (j:Nat) (v:Value),mid[j]? =some v→cur[i*4+j]? =some v)(h1m:∀ v∈mid,v.oneCell'=true)
  (hpl:pre.length=i*4)(hpc:∀ (j:Nat) (v:Value),pre[j]? =some v→cur[j]? =some v):
  Calls Tryz.prog 107 #[.slice (some ⟨g,0,none⟩) n c,.int .i64 i,.slice (some ⟨gv,0,none⟩) 1 vc] w fun e w'=>
   ∃ G ROW,e= .returned (.slice (some ⟨w.heap.size,0,none⟩) (n+1) G)∧n+1≤G∧G≤maxLen∧ROW.size=G*4∧(∀ (j:Nat) (v:Value),pre[j]? =some v→ROW[j]? =some v)∧NewRow w w' (fG (fG ROW (i*4) vs) ((i+1)*4) mid):=by
 obtain ⟨ti,tz,ti1,ti2,ti3,ti4,ti5⟩:=vY
 have hgl:g<w.heap.size:=(Array.getElem?_eq_some_iff.1 hg).1
 have hgvl:gv<w.heap.size:=(Array.getElem?_eq_some_iff.1 hgv).1
 have hz2:¬((i:Int)=(n:Int)):=by omega
 have hz3:(c:Int)<(n:Int)+1:=by omega
 have hkk:(n:Int)+1 - (i:Int)=((n+1 - i:Nat):Int):=by omega
 have hik:i+(n+1 - i)=n+1:=by omega
 have hold:(Builtin.firstCells ti.size i (.slice (some ⟨g,0,none⟩) i c)).run Tryz.prog w.drew= .ok pre.toArray w.drew:=by
  rw [ti3]
  exact run_firstCells_some w.drew 4 i ⟨g,0,none⟩ i c pre hpl (fun j v hj=>by
   rw [Addr.add_lit,Nat.zero_add]
   have hg0:w.drew.heap[g]? =some (.cells cur T fr):=hg
   simp only [World.cell?,hg0]
   exact hpc j v hj)
 have hrz:∀ ty,(Builtin.append_ #[31,3] ty #[.slice (some ⟨g,0,none⟩) i c,.int .i64 ((n:Int)+1 - (i:Int))]).run Tryz.prog w=
   .ok (.slice (some ⟨w.heap.size,0,none⟩) (n+1) (grownCap w (n+1) c 41)) (w.drew.alloc (.cells (pre.toArray++Builtin.zeroCells tz.cells (n+1 - i)++Builtin.zeroCells tz.cells (grownCap w (n+1) c 41 - (n+1))) 41)):=fun ty=>by
  have h:=Lib.run_append_grow_zeros (P:=Tryz.prog) w 31 3 ty 41 ti tz .i64 .i64 gV (by kernel_rfl) ti1 ti2 (some ⟨g,0,none⟩) i c pre hold (n+1 - i) (by omega) (by omega) (by omega) (by omega) (by rw [ti4];omega) (by rw [ti4,hik];exact growslice_fits hroom hbig)
  rw [hik] at h
  rw [hkk]
  exact h
 have hGn:n+1≤grownCap w (n+1) c 41:=grownCap_ge w _ _ _
 have hGm:grownCap w (n+1) c 41≤maxLen:=grownCap_le_maxLen w (n+1) c 41 (by unfold maxLen;omega)
 obtain ⟨G,hG⟩:∃ G,G=grownCap w (n+1) c 41:=⟨_,rfl⟩
 obtain ⟨ROW,hROW⟩:∃ ROW:Array Value,ROW=pre.toArray++Builtin.zeroCells tz.cells (n+1 - i)++Builtin.zeroCells tz.cells (G - (n+1)):=⟨_,rfl⟩
 rw [←hG] at hrz hGn hGm
 rw [←hROW] at hrz
 have hRl:ROW.size=G*4:=by
  rw [hROW]
  simp only [Array.size_append,size_zeroCells,ti5,List.size_toArray,hpl]
  omega
 have hRp:∀ (j:Nat) (v:Value),pre[j]? =some v→ROW[j]? =some v:=fun j v hj=>by
  have hjl:=(List.getElem?_eq_some_iff.1 hj).1
  rw [hROW,Array.append_assoc,Array.getElem?_append_left (by simpa using hjl)]
  simpa using hj
 have n1:=vZ w ROW
 obtain ⟨W1,hW1⟩:∃ W1,W1=w.drew.alloc (.cells ROW 41):=⟨_,rfl⟩
 rw [←hW1] at hrz n1
 have hcpA:∀ ty dc sc,(Builtin.copy_ #[31,31] ty #[.slice (some ⟨w.heap.size,i*4,none⟩) (n+1 - i) dc,.slice (some ⟨gv,0,none⟩) 1 sc]).run Tryz.prog W1= .ok (goInt 1) (W1.setRow w.heap.size (fG ROW (i*4) vs)):=fun ty dc sc=>by
  have hm:Nat.min 1 (n+1 - i)=1:=by simp only [Nat.min_def];split<;>omega
  have hgv1:=(n1.same gv hgvl).trans hgv
  have:=kG (P:=Tryz.prog) W1 31 31 ty 41 w.heap.size (i*4) (n+1 - i) dc ⟨gv,0,none⟩ 1 sc ROW 41 (0,0) vs gV ti1 n1.new (by rw [hm,ti3];exact hvs)
   (fun j v hj=>by rw [Addr.add_lit];simp only [World.cell?,hgv1,Nat.zero_add];exact hvc j v hj) (by omega) (fun k _ _=>by simp) h1v
  rw [hm] at this
  exact this
 have n2:=(n1.set (fG ROW (i*4) vs)).drew
 have hrs:(fG ROW (i*4) vs).size=ROW.size:=dP (by omega)
 obtain ⟨W2,hW2⟩:∃ W2,W2=(W1.setRow w.heap.size (fG ROW (i*4) vs)).drew:=⟨_,rfl⟩
 rw [←hW2] at n2
 have hcpB:∀ ty dc sc,(Builtin.copy_ #[31,31] ty #[.slice (some ⟨w.heap.size,(i+1)*4,none⟩) (n+1 - (i+1)) dc,.slice (some ⟨g,i*4,none⟩) (n - i) sc]).run Tryz.prog W2= .ok (goInt ((n - i:Nat):Int)) (W2.setRow w.heap.size (fG (fG ROW (i*4) vs) ((i+1)*4) mid)):=fun ty dc sc=>by
  have hm:Nat.min (n - i) (n+1 - (i+1))=n - i:=by simp only [Nat.min_def];split<;>omega
  have hg2:=(n2.same g hgl).trans hg
  have:=kG (P:=Tryz.prog) W2 31 31 ty 41 w.heap.size ((i+1)*4) (n+1 - (i+1)) dc ⟨g,i*4,none⟩ (n - i) sc _ 41 (0,0) mid gV ti1 n2.new (by rw [hm,ti3];exact hml)
   (fun j v hj=>by rw [Addr.add_lit];simp only [World.cell?,hg2];exact hmc j v hj) (by omega) (fun k _ _=>by simp) h1m
  rw [hm] at this
  exact this
 have n3:=n2.set (fG (fG ROW (i*4) vs) ((i+1)*4) mid)
 have hG63:G≤9223372036854775807:=by unfold maxLen at hGm;omega
 have hGi:¬(G=i):=by omega
 have hGim:¬(G=i+1):=by omega
 have hci:¬(c=i):=by omega
 have hw1:IntKind.i64.wrap ((i:Int)+1)=(i:Int)+1:=by rw [IntKind.wrap_i64];omega
 have hb1:(0:Int)≤(i:Int)+1:=by omega
 have hin:i≤n:=by omega
 have htn:((i:Int)+1).toNat=i+1:=by omega
 have hb3:(i:Int)≤(n:Int):=by omega
 have mixed:Tryz.prog.follows .mixedOrders=true:=V.mixed
 have hE:W1=(w.alloc (.cells ROW 41)).drew:=hW1
 rw [hE] at hcpA hW2 hrz
 clear hE hW1
 subst hW2
 clear hkk hik hold hROW hG ti1 ti2 ti3 ti4 ti5 n1 n2 hg hgv
 go_enter Tryz.func107,Tryz.ntmps107
 go_wp2_with (first
  | (at_builtin;refine Lib.wpList_append_run _ rfl _ _ _ _ rfl _ _ rfl rfl _ _ (hrz _) ?_)
  | (at_builtin;refine wpList_copy_runI _ rfl _ _ 31 31 rfl _ _ rfl rfl (hcpA _ _ _) ?_))
 go_region_law_o (refine step_copy_runI rfl _ _ 31 31 rfl (.slice (some ⟨w.heap.size,(i+1)*4,none⟩) (n+1 - (i+1)) (G - (i+1))) (.slice (some ⟨g,i*4,none⟩) (n - i) (c - i)) (by simp [Act.eval,Act.put]) (by simp [Act.eval,Act.put]) (hcpB _ _ _) ?_)
 go_wp2
 go_ret
 exact ⟨G,ROW,rfl,hGn,hGm,hRl,hRp,n3⟩

theorem FB (w:World)(g n c gv vc:Nat)(cur curv:Array Value)(T Tv:TypeId)(fr frv:Nat×Nat)(vs:List Value)(hroom:n+1≤c)(hc63:c≤9223372036854775807)
  (hg:w.heap[g]? =some (.cells cur T fr))(hgv:w.heap[gv]? =some (.cells curv Tv frv))(hcs:c*4≤cur.size)(hfr:∀ o,(fr.1≤o&&o<fr.2)=false)
  (hvs:vs.length=4)(hvc:∀ (j:Nat) (v:Value),vs[j]? =some v→curv[j]? =some v)(h1v:∀ v∈vs,V.Cell1 v):
  Calls Tryz.prog 107 #[.slice (some ⟨g,0,none⟩) n c,.int .i64 n,.slice (some ⟨gv,0,none⟩) 1 vc] w fun e w'=>
   e= .returned (.slice (some ⟨g,0,none⟩) (n+1) c)∧w'=w.setRow g (fG cur (n*4) vs):=by
 obtain ⟨ti,tz,ti1,ti2,ti3,ti4,ti5⟩:=vY
 have hf:(Builtin.firstCells ti.size 1 (.slice (some ⟨gv,0,none⟩) 1 vc)).run Tryz.prog w= .ok vs.toArray w:=by
  rw [ti3]
  exact V.run_firstCells_row Tryz.prog w (by omega) (fun j v hj=>by simp only [World.cell?,hgv,Nat.zero_add];exact hvc j v hj)
 have hrun:∀ ty,(Builtin.append_ #[31,31] ty #[.slice (some ⟨g,0,none⟩) n c,.slice (some ⟨gv,0,none⟩) 1 vc]).run Tryz.prog w= .ok (.slice (some ⟨g,0,none⟩) (n+1) c) (w.setRow g (fG cur (n*4) vs)):=fun ty=>by
  have h:=V.run_app_room (P:=Tryz.prog) (w:=w) (ty:=ty) gV gV ti1 (gg:=g) (sLen:=n) (sCap:=c) hg (A:=some ⟨gv,0,none⟩) (n:=1) (cap:=vc) (by rw [ti3];exact hvs) hf h1v hroom (fun o _=>hfr o) (by rw [ti3];exact hcs)
  rw [ti3] at h
  exact h
 clear hf ti1 ti2 ti3 ti4 ti5
 have mixed:Tryz.prog.follows .mixedOrders=true:=V.mixed
 go_enter Tryz.func107,Tryz.ntmps107
 go_wp2_with (at_builtin;refine Lib.wpList_append_run _ rfl _ _ _ _ rfl _ _ rfl rfl _ _ (hrun _) ?_)
 go_ret
 exact ⟨rfl,rfl⟩

theorem wA (w:World)(base:Option Nat)(n c gv vc:Nat)(curv:Array Value)(Tv:TypeId)(frv:Nat×Nat)(cs vs:List Value)(hnc:n≤c)(hroom:c<n+1)(hbig:(n+1)*64≤140737488355328)
  (hb:base=none→n=0)(hg:∀ g,base=some g→∀ (j:Nat) (v:Value),cs[j]? =some v→w.cell? ⟨g,j,none⟩=some v)(hcl:cs.length=n*4)(hgv:w.heap[gv]? =some (.cells curv Tv frv))
  (hvs:vs.length=4)(hvc:∀ (j:Nat) (v:Value),vs[j]? =some v→curv[j]? =some v):
  Calls Tryz.prog 107 #[.slice (base.map fun g=>⟨g,0,none⟩) n c,.int .i64 n,.slice (some ⟨gv,0,none⟩) 1 vc] w fun e w'=>
   ∃ G ROW,e= .returned (.slice (some ⟨w.heap.size,0,none⟩) (n+1) G)∧n+1≤G∧G≤maxLen∧ROW.size=G*4∧(∀ (j:Nat) (v:Value),(cs++vs)[j]? =some v→ROW[j]? =some v)∧NewRow w w' ROW:=by
 obtain ⟨ti,tz,ti1,ti2,ti3,ti4,ti5⟩:=vY
 have hf:(Builtin.firstCells ti.size 1 (.slice (some ⟨gv,0,none⟩) 1 vc)).run Tryz.prog w.drew= .ok vs.toArray w.drew:=by
  rw [ti3]
  have hgv0:w.drew.heap[gv]? =some (.cells curv Tv frv):=hgv
  exact V.run_firstCells_row Tryz.prog w.drew (by omega) (fun j v hj=>by simp only [World.cell?,hgv0,Nat.zero_add];exact hvc j v hj)
 have hfo:(Builtin.firstCells ti.size n (.slice (base.map fun g=>⟨g,0,none⟩) n c)).run Tryz.prog w.drew= .ok cs.toArray w.drew:=by
  rw [ti3]
  cases base with
  | none=>
   have h0:=hb rfl
   subst h0
   have hc0:cs=[]:=List.length_eq_zero_iff.1 (by simpa using hcl)
   rw [hc0]
   exact run_firstCells_none w.drew 4 0 0 c
  | some g=>exact V.run_firstCells_row Tryz.prog w.drew hcl (fun j v hj=>by rw [Nat.zero_add];exact hg g rfl j v hj)
 have hrun:∀ ty,(Builtin.append_ #[31,31] ty #[.slice (base.map fun g=>⟨g,0,none⟩) n c,.slice (some ⟨gv,0,none⟩) 1 vc]).run Tryz.prog w= .ok (.slice (some ⟨w.heap.size,0,none⟩) (n+1) (grownCap w (n+1) c 41))
   (w.drew.alloc (.cells (cs.toArray++vs.toArray++Builtin.zeroCells tz.cells (grownCap w (n+1) c 41 - (n+1))) 41)):=fun ty=>
  V.run_app_grow (P:=Tryz.prog) (w:=w) (ty:=ty) gV gV ti1 ti2 hfo hf hroom (by omega) (by rw [ti4];exact growslice_fits hroom hbig)
 have hGn:n+1≤grownCap w (n+1) c 41:=grownCap_ge w _ _ _
 have hGm:grownCap w (n+1) c 41≤maxLen:=grownCap_le_maxLen w (n+1) c 41 (by unfold maxLen;omega)
 obtain ⟨G,hG⟩:∃ G,G=grownCap w (n+1) c 41:=⟨_,rfl⟩
 obtain ⟨ROW,hROW⟩:∃ ROW:Array Value,ROW=cs.toArray++vs.toArray++Builtin.zeroCells tz.cells (G - (n+1)):=⟨_,rfl⟩
 rw [←hG] at hrun hGn hGm
 rw [←hROW] at hrun
 have hRl:ROW.size=G*4:=by
  rw [hROW]
  simp only [Array.size_append,size_zeroCells,ti5,List.size_toArray,hcl,hvs]
  omega
 have hRp:∀ (j:Nat) (v:Value),(cs++vs)[j]? =some v→ROW[j]? =some v:=fun j v hj=>by
  have hjl:=(List.getElem?_eq_some_iff.1 hj).1
  rw [hROW,Array.getElem?_append_left (by simpa using hjl)]
  simpa using hj
 have n1:=vZ w ROW
 clear hf hfo hG hROW ti1 ti2 ti3 ti4 ti5 hg hgv
 have mixed:Tryz.prog.follows .mixedOrders=true:=V.mixed
 go_enter Tryz.func107,Tryz.ntmps107
 cases base with
 | none=>
  have h0:=hb rfl
  subst h0
  simp only [Option.map_none] at hrun ⊢
  go_wp2_with (at_builtin;refine Lib.wpList_append_run _ rfl _ _ _ _ rfl _ _ rfl rfl _ _ (hrun _) ?_)
  go_ret
  exact ⟨G,rfl,hGn,hGm,ROW,hRl,hRp,n1⟩
 | some g=>
  simp only [Option.map_some] at hrun ⊢
  go_wp2_with (at_builtin;refine Lib.wpList_append_run _ rfl _ _ _ _ rfl _ _ rfl rfl _ _ (hrun _) ?_)
  all_goals (go_ret;exact ⟨G,ROW,rfl,hGn,hGm,hRl,hRp,n1⟩)
end Go.Proofs.YtmgpamcpdblckaaGreatDoor

/-
Plain proofs: one package is put into a list.
-/
namespace Go.Proofs.YtmgpamcpdblckaaGreatDoor
namespace V
section
variable {W:Wld}{w w':World}{own:Own}{cx:Cx}

theorem Jo {sz:Nat}(hsz:0<sz){lf:Leaf}{xs:List (List D)}{cur:Array Value}{vs1:Nat→Nat→Value}(a8:∀ x∈xs,x.length=sz)(a9:∀ (k:Nat) (x:List D) (j:Nat) (d:D),xs[k]? =some x→x[j]? =some d→cur[k*sz+j]? =some (vs1 k j))
  (a10:∀ (k:Nat) (x:List D) (j:Nat) (d:D),xs[k]? =some x→x[j]? =some d→InRep w own lf true [(k,j)] d (vs1 k j))(o:Nat)(ho:o<xs.length*sz)(u:Value)(hu:cur[o]? =some u):Cell1 u:=by
 have hk:o / sz<xs.length:=Nat.div_lt_of_lt_mul (by rw [Nat.mul_comm];exact ho)
 have hx:xs[o / sz]? =some xs[o / sz]:=List.getElem?_eq_getElem hk
 have hj:o % sz<xs[o / sz].length:=by rw [a8 _ (List.mem_of_getElem? hx)];exact Nat.mod_lt _ hsz
 have hd:=List.getElem?_eq_getElem hj
 have h9:=a9 _ _ _ _ hx hd
 rw [Nat.div_add_mod',hu] at h9
 simp only [Option.some.injEq] at h9
 rw [h9]
 exact (a10 _ _ _ _ hx hd).cell1

theorem nO {cur:Array Value}{o n:Nat}(j:Nat):((cur.toList.drop o).take n)[j]? =if j<n then cur[o+j]? else none:=by
 rw [List.getElem?_take]
 split
 ·rw [List.getElem?_drop,Array.getElem?_toList]
 ·rfl
theorem Ae {cur:Array Value}{o n:Nat}(h:o+n≤cur.size):((cur.toList.drop o).take n).length=n:=by
 rw [List.length_take,List.length_drop,Array.length_toList]
 omega

theorem wB {g' cap':Nat}{l:List Pk}{p:Pk}{i:Nat}(hi:i≤l.length){vals:List Value}
  (h:∃ own',WOk w own cx own' w'∧OwnRep w' cx own' (0,1) true ⟨4,true⟩ (.sl ((l.map ePk).take i++ePk p::(l.map ePk).drop i)) (.slice (some ⟨g',0,none⟩) ((l.map ePk).length+1) cap')):
  ∃ v own',Ending.returned (.slice (some ⟨g',0,none⟩) ((l.map ePk).length+1) cap')=Ending.returned v∧WOk w own cx own' w'∧lI w' cx own' fE [bN (l.take i++p::l.drop i)] vals v:=by
 obtain ⟨own',h1,h2⟩:=h
 refine ⟨_,own',rfl,h1,?_⟩
 refine ⟨rfl,[.slice (some ⟨g',0,none⟩) ((l.map ePk).length+1) cap'],rfl,rfl,fun k q hq=>?_,fun i b hb=>by simp [boxPs] at hb⟩
 cases k with
 | succ k=>simp at hq
 | zero=>
  have hq:PSh.v false [.o true ⟨4,true⟩]=q:=by simpa using hq
  subst hq
  refine ⟨[.slice (some ⟨g',0,none⟩) ((l.map ePk).length+1) cap'],rfl,fun _=>rfl,rfl,rfl,fun j c dd v hc hd hv=>?_⟩
  cases j with
  | succ j=>simp at hc
  | zero=>
   simp only [List.getElem?_cons_zero,Option.some.injEq] at hc hv
   subst hc;subst hv
   have hd:some (D.sl ((l.take i++p::l.drop i).map ePk))=some dd:=hd
   simp only [Option.some.injEq] at hd
   subst hd
   refine ⟨⟨fun c h=>(by cases h),fun c h=>(by cases h)⟩,?_⟩
   simp only [List.map_append,List.map_cons,List.map_take,List.map_drop]
   exact h2

theorem NZ (l:List Pk)(p:Pk)(i:Nat)(hi:i≤l.length)(hl:l.length≤lim):FunOk PP W pZ fE [bN l,i64 (i:Int),bN [p]] [bN (l.take i++p::l.drop i)]:=by
 refine ⟨⟨Tryz.f107,Tryz.func107,by kernel_rfl,by kernel_rfl⟩,fun w own cx vals hP hw hlow hvl hil hinv=>?_⟩
 match vals,hvl with
 | [v0,v1,v2],_=>
  obtain ⟨vs0,e0,l0,a0⟩:=hinv (0,.v false [.o true ⟨4,true⟩]) (List.mem_cons_self ..)
  obtain ⟨vs1,e1,l1,a1⟩:=hinv (1,.v false [.s]) (List.mem_cons_of_mem _ (List.mem_cons_self ..))
  obtain ⟨vs2,e2,l2,a2⟩:=hinv (2,.v false [.o true ⟨4,true⟩]) (List.mem_cons_of_mem _ (List.mem_cons_of_mem _ (List.mem_cons_self ..)))
  have hl0:=l0 rfl
  have hl1:=l1 rfl
  have hl2:=l2 rfl
  match vs0,hl0,vs1,hl1,vs2,hl2 with
  | [u0],_,[u1],_,[u2],_=>
   have h0:v0=u0:=e0
   have h1:v1=u1:=e1
   have h2:v2=u2:=e2
   subst h0;subst h1;subst h2
   obtain ⟨_,hr⟩:=a0.2.2 0 _ (.sl (l.map ePk)) v0 rfl rfl rfl
   obtain ⟨_,hs⟩:=a1.2.2 0 .s (.int .i64 (i:Int)) v1 rfl rfl rfl
   obtain ⟨_,hv⟩:=a2.2.2 0 _ (.sl ([p].map ePk)) v2 rfl rfl rfl
   have hv1:v1= .int .i64 (i:Int):=by cases hs;rfl
   subst hv1
   have hr:OwnRep w cx own (0,1) true ⟨4,true⟩ (.sl (l.map ePk)) v0:=hr
   have hv:OwnRep w cx own (2,1) true ⟨4,true⟩ (.sl ([p].map ePk)) v2:=hv
   have hlen:(l.map ePk).length=l.length:=List.length_map ..
   have hlim:lim=1073741824:=rfl
   generalize hxs:l.map ePk=xs at hr hlen
   cases hv with
   | ip _ _ hf=>cases hf
   | sl ys gv capv curv Tv frv wv q1 q2 q3 q4 q5 q6 q7 q8 q9 q10=>
    simp only [] at q3 q4 q5 q6 q8 q9 q10
    have q3:1≤capv:=q3
    have b9:∀ (j:Nat) (d:D),(ePk p)[j]? =some d→curv[j]? =some (wv 0 j):=fun j d hd=>by
     have:=q9 0 (ePk p) j d rfl hd
     rwa [Nat.zero_mul,Nat.zero_add] at this
    have b10:∀ (j:Nat) (d:D),(ePk p)[j]? =some d→InRep w own (2,1) true [(0,j)] d (wv 0 j):=fun j d hd=>q10 0 (ePk p) j d rfl hd
    have hfv:∀ o,(frv.1≤o&&o<frv.2)=false:=fun o=>q6 o (.inr (by decide))
    have hcv:4≤curv.size:=by omega
    have v1:((curv.toList.drop 0).take 4).length=4:=Ae (by omega)
    have v2:∀ (j:Nat) (v:Value),((curv.toList.drop 0).take 4)[j]? =some v→curv[j]? =some v:=fun j v hj=>by
     rw [nO] at hj
     split at hj
     ·rwa [Nat.zero_add] at hj
     ·cases hj
    have v4:∀ j,j<4→((curv.toList.drop 0).take 4)[j]? =curv[j]? :=fun j hj=>by rw [nO,if_pos hj,Nat.zero_add]
    have v3:∀ v∈(curv.toList.drop 0).take 4,Cell1 v:=fun v hm=>by
     obtain ⟨j,hj⟩:=List.getElem?_of_mem hm
     have hj4:=(List.getElem?_eq_some_iff.1 hj).1
     rw [v1] at hj4
     exact Jo (sz:=4) (by decide) (xs:=[ePk p]) (cur:=curv) (vs1:=wv) q8 q9 q10 j (by simpa using hj4) v (v2 j v hj)
    generalize (curv.toList.drop 0).take 4=vs at v1 v2 v3 v4
    have hgl:=iW q1
    cases hr with
    | ip _ _ hf=>cases hf
    | nil=>
     have hl0:l=[]:=by cases l with | nil=>rfl | cons a b=>simp at hxs
     subst hl0
     have hi0:i=0:=by simpa using hi
     subst hi0
     refine (wA w none 0 0 gv capv curv Tv frv [] vs (by omega) (by omega) (by omega) (fun _=>rfl) (fun g h=>by cases h) rfl q1 v1 v2).mono ?_
     rintro e w' ⟨G,ROW,rfl,k1,k2,k3,k4,k5⟩
     refine wB (l:=[]) (p:=p) (i:=0) (Nat.le_refl _) (rD hw (sz:=4) (cur:=#[]) (curv:=curv) (cur':=ROW) (T':=41) (fr':=(0,0)) (vs1:=fun _ _=>undef) (vs2:=wv 0) (fun x hx=>by simp at hx) (fun k x j d hk=>by simp at hk) (fun k x j d hk=>by simp at hk)
      (by rfl) b9 b10 (Nat.le_refl _) (by decide) k5.os k5.tape k5.output (by rw [k5.size];omega) (fun k hk _=>k5.same k hk) k5.new (.inl (Nat.le_refl _)) (fun k j hk hj=>?_) k1 k2 (by omega) (fun o _=>by simp))
     have hk0:k=0:=by simpa using hk
     subst hk0
     rw [if_neg (Nat.lt_irrefl _),if_pos rfl,←v4 j hj,Nat.zero_mul,Nat.zero_add]
     have hjl:j<vs.length:=by omega
     rw [List.getElem?_eq_getElem hjl]
     exact k4 j _ (by simpa using List.getElem?_eq_getElem hjl)
    | sl _ g cap cur T fr wx p1 p2 p3 p4 p5 p6 p7 p8 p9 p10=>
     simp only [] at p2 p5 p6 p8 p9 p10
     have hfr:∀ o,(fr.1≤o&&o<fr.2)=false:=fun o=>p6 o (.inr (by decide))
     have hne:gv≠g:=fun e=>by
      rw [e,p2] at q2
      simp at q2
     have hm63:maxLen=9223372036854775807:=rfl
     have hcap:l.length≤cap:=by omega
     have hrow:=Jo (sz:=4) (by decide) p8 p9 p10
     have hold:own g=some ⟨(0,1),[],some 0⟩∧∃ c0:Array Value,w.heap[g]? =some (.cells c0 T fr)∧cur.size=c0.size:=⟨p2,cur,p1,rfl⟩
     by_cases hin:i=l.length
     ·subst hin
      by_cases hroom:l.length+1≤cap
      ·rw [hlen]
       refine (FB w g l.length cap gv capv cur curv T Tv fr frv vs hroom (by omega) p1 q1 p5 hfr v1 v2 v3).mono ?_
       rintro e w' ⟨rfl,rfl⟩
       have hs:l.length*4+vs.length≤cur.size:=by omega
       have:=rD hw (w':=w.setRow g (fG cur (l.length*4) vs)) (sz:=4) (xs:=xs) (y:=ePk p) (i:=l.length) (g':=g) (cap':=cap) (cur:=cur) (curv:=curv) (cur':=fG cur (l.length*4) vs) (T':=T) (fr':=fr) (vs1:=wx) (vs2:=wv 0) p8 p9 p10
        (by rfl) b9 b10 (by omega) (by decide) rfl rfl rfl (by simp [World.setRow]) (fun k _ hk=>setRow_other w g k _ hk) (setRow_heap w g cur _ T fr p1) (.inr ⟨p2,cur,p1,dP hs⟩) (fun k j hk hj=>?_) (by omega) p4 (by rw [dP hs];exact p5) p6
       ·rw [←hxs] at this
        have h:=wB (l:=l) (p:=p) (i:=l.length) (vals:=[.slice (some ⟨g,0,none⟩) l.length cap,.int .i64 (l.length:Int),.slice (some ⟨gv,0,none⟩) 1 capv]) (Nat.le_refl _) this
        rw [hxs,hlen] at h
        exact h
       ·rw [rV hs]
        by_cases c1:k<l.length
        ·rw [if_pos (by omega),if_pos c1]
        ·have hk':k=l.length:=by omega
         subst hk'
         rw [if_neg (by omega),if_pos (by omega),if_neg (Nat.lt_irrefl _),if_pos rfl,show l.length*4+j - l.length*4=j by omega,v4 j hj]
      ·have c1:((cur.toList.drop 0).take (l.length*4)).length=l.length*4:=Ae (by omega)
       rw [hlen]
       refine (wA w (some g) l.length cap gv capv curv Tv frv ((cur.toList.drop 0).take (l.length*4)) vs hcap (by omega) (by omega) (fun h=>by cases h) (fun g0 hg0 j v hj=>by
        simp only [Option.some.injEq] at hg0
        subst hg0
        simp only [World.cell?,p1]
        rw [nO] at hj
        split at hj
        ·rwa [Nat.zero_add] at hj
        ·cases hj) c1 q1 v1 v2).mono ?_
       rintro e w' ⟨G,ROW,rfl,k1,k2,k3,k4,k5⟩
       have:=rD hw (w':=w') (sz:=4) (xs:=xs) (y:=ePk p) (i:=l.length) (g':=w.heap.size) (cap':=G) (cur:=cur) (curv:=curv) (cur':=ROW) (T':=41) (fr':=(0,0)) (vs1:=wx) (vs2:=wv 0) p8 p9 p10
        (by rfl) b9 b10 (by omega) (by decide) k5.os k5.tape k5.output (by rw [k5.size];omega) (fun k hk _=>k5.same k hk) k5.new (.inl (Nat.le_refl _)) (fun k j hk hj=>?_) (by omega) k2 (by omega) (fun o _=>by simp)
       ·rw [←hxs] at this
        have h:=wB (l:=l) (p:=p) (i:=l.length) (vals:=[.slice (some ⟨g,0,none⟩) l.length cap,.int .i64 (l.length:Int),.slice (some ⟨gv,0,none⟩) 1 capv]) (Nat.le_refl _) this
        rw [hxs,hlen] at h
        exact h
       ·by_cases c2:k<l.length
        ·rw [if_pos c2]
         have hlt:k*4+j<cur.size:=by omega
         rw [Array.getElem?_eq_getElem hlt]
         refine k4 _ _ ?_
         rw [List.getElem?_append_left (by omega),nO,if_pos (by omega),Nat.zero_add,Array.getElem?_eq_getElem hlt]
        ·have hk':k=l.length:=by omega
         subst hk'
         rw [if_neg (Nat.lt_irrefl _),if_pos rfl,←v4 j hj]
         have hjl:j<vs.length:=by omega
         rw [List.getElem?_eq_getElem hjl]
         refine k4 _ _ ?_
         rw [List.getElem?_append_right (by omega),c1,show l.length*4+j - l.length*4=j by omega,List.getElem?_eq_getElem hjl]
     ·have hin':i<l.length:=by omega
      have m1:((cur.toList.drop (i*4)).take ((l.length - i)*4)).length=(l.length - i)*4:=Ae (by omega)
      have m2:∀ (j:Nat) (v:Value),((cur.toList.drop (i*4)).take ((l.length - i)*4))[j]? =some v→cur[i*4+j]? =some v:=fun j v hj=>by
       rw [nO] at hj
       split at hj
       ·exact hj
       ·cases hj
      have m4:∀ j,j<(l.length - i)*4→((cur.toList.drop (i*4)).take ((l.length - i)*4))[j]? =cur[i*4+j]? :=fun j hj=>by rw [nO,if_pos hj]
      have m3:∀ v∈(cur.toList.drop (i*4)).take ((l.length - i)*4),v.oneCell'=true:=fun v hm=>by
       obtain ⟨j,hj⟩:=List.getElem?_of_mem hm
       have hjl:=(List.getElem?_eq_some_iff.1 hj).1
       exact (hrow (i*4+j) (by omega) v (m2 j v hj)).one
      generalize (cur.toList.drop (i*4)).take ((l.length - i)*4)=mid at m1 m2 m3 m4
      by_cases hroom:l.length+1≤cap
      ·rw [hlen]
       refine (LD w g l.length cap i gv capv cur curv T Tv fr frv mid vs hin' hroom (by omega) hne p1 q1 p5 hfr hfv v1 v2 (fun v h=>(v3 v h).one) m1 m2 m3).mono ?_
       rintro e w' ⟨rfl,rfl⟩
       have hs:(i+1)*4+mid.length≤cur.size:=by omega
       have hs1:i*4+vs.length≤(fG cur ((i+1)*4) mid).size:=by rw [dP hs];omega
       have:=rD hw (w':=w.drew.setRow g (fG (fG cur ((i+1)*4) mid) (i*4) vs)) (sz:=4) (xs:=xs) (y:=ePk p) (i:=i) (g':=g) (cap':=cap) (cur:=cur) (curv:=curv) (cur':=fG (fG cur ((i+1)*4) mid) (i*4) vs) (T':=T) (fr':=fr) (vs1:=wx) (vs2:=wv 0) p8 p9 p10
        (by rfl) b9 b10 (by omega) (by decide) rfl rfl rfl (by show _≤(w.heap.modify _ _).size;simp) (fun k _ hk=>setRow_other w.drew g k _ hk) (setRow_heap w.drew g cur _ T fr p1) (.inr ⟨p2,cur,p1,by rw [dP hs1,dP hs]⟩) (fun k j hk hj=>?_) (by omega) p4 (by rw [dP hs1,dP hs];exact p5) p6
       ·rw [←hxs] at this
        have h:=wB (l:=l) (p:=p) (i:=i) (vals:=[.slice (some ⟨g,0,none⟩) l.length cap,.int .i64 (i:Int),.slice (some ⟨gv,0,none⟩) 1 capv]) hi this
        rw [hxs,hlen] at h
        exact h
       ·rw [rV hs1,rV hs]
        by_cases c1:k<i
        ·rw [if_pos (by omega),if_pos (by omega),if_pos c1]
        ·by_cases c2:k=i
         ·subst c2
          rw [if_neg (by omega),if_pos (by omega),if_neg (Nat.lt_irrefl _),if_pos rfl,show k*4+j - k*4=j by omega,v4 j hj]
         ·rw [if_neg (by omega),if_neg (by omega),if_neg (by omega),if_pos (by omega),if_neg c1,if_neg c2,m4 _ (by omega)]
          congr 1
          omega
      ·have c1:((cur.toList.drop 0).take (i*4)).length=i*4:=Ae (by omega)
       rw [hlen]
       refine (NY w g l.length cap i gv capv cur curv T Tv fr frv ((cur.toList.drop 0).take (i*4)) mid vs hin' hcap (by omega) (by omega) p1 q1 v1 v2 (fun v h=>(v3 v h).one) m1 m2 m3 c1 (fun j v hj=>by
        rw [nO] at hj
        split at hj
        ·rwa [Nat.zero_add] at hj
        ·cases hj)).mono ?_
       rintro e w' ⟨G,ROW,rfl,k1,k2,k3,k4,k5⟩
       have hs1:i*4+vs.length≤ROW.size:=by omega
       have hs:(i+1)*4+mid.length≤(fG ROW (i*4) vs).size:=by rw [dP hs1];omega
       have:=rD hw (w':=w') (sz:=4) (xs:=xs) (y:=ePk p) (i:=i) (g':=w.heap.size) (cap':=G) (cur:=cur) (curv:=curv) (cur':=fG (fG ROW (i*4) vs) ((i+1)*4) mid) (T':=41) (fr':=(0,0)) (vs1:=wx) (vs2:=wv 0) p8 p9 p10
        (by rfl) b9 b10 (by omega) (by decide) k5.os k5.tape k5.output (by rw [k5.size];omega) (fun k hk _=>k5.same k hk) k5.new (.inl (Nat.le_refl _)) (fun k j hk hj=>?_) (by omega) k2 (by rw [dP hs,dP hs1];omega) (fun o _=>by simp)
       ·rw [←hxs] at this
        have h:=wB (l:=l) (p:=p) (i:=i) (vals:=[.slice (some ⟨g,0,none⟩) l.length cap,.int .i64 (i:Int),.slice (some ⟨gv,0,none⟩) 1 capv]) hi this
        rw [hxs,hlen] at h
        exact h
       ·rw [rV hs,rV hs1]
        by_cases c3:k<i
        ·rw [if_pos (by omega),if_pos (by omega),if_pos c3]
         have hlt:k*4+j<cur.size:=by omega
         rw [Array.getElem?_eq_getElem hlt]
         refine k4 _ _ ?_
         rw [nO,if_pos (by omega),Nat.zero_add,Array.getElem?_eq_getElem hlt]
        ·by_cases c2:k=i
         ·subst c2
          rw [if_pos (by omega),if_neg (by omega),if_pos (by omega),if_neg (Nat.lt_irrefl _),if_pos rfl,show k*4+j - k*4=j by omega,v4 j hj]
         ·rw [if_neg (by omega),if_pos (by omega),if_neg c3,if_neg c2,m4 _ (by omega)]
          congr 1
          omega
end
section
open Classical
variable {W:Wld}

def uD (s:List Pk):Prop:=s.Pairwise bH
theorem FC {s:List Pk}(h:jG s):uD s:=Pe fun i j h0 hij hj=>NU h _ i j rfl h0 hij hj
def tF (q p:Pk):Prop:=q.name=p.name∧q.ver=p.ver
theorem FD {p q r:Pk}(h1:bH p q)(h2:bH q r):bH p r:=by unfold bH at *;omega
theorem wC {p q:Pk}(h1:bH p q):¬bH q p:=by unfold bH at *;omega
theorem Pj {p q:Pk}(h1:bH p q):¬tF p q:=by unfold bH tF at *;omega
theorem Jp {p q:Pk}(h1:¬bH p q)(h2:¬tF p q):bH q p:=by unfold bH tF at *;omega
noncomputable def eR:List Pk→Pk→Nat
 | [],_=>0
 | a::r,p=>if bH a p then eR r p+1 else 0
theorem FE:∀ (ps:List Pk) (p:Pk),eR ps p≤ps.length
 | [],p=>Nat.le_refl _
 | a::r,p=>by
  have:=FE r p
  unfold eR
  split
  ·simp only [List.length_cons];omega
  ·omega
theorem uE:∀ {ps:List Pk} {p:Pk},uD ps→(∀ q∈ps.take (eR ps p),bH q p)∧(∀ q∈ps.drop (eR ps p),¬bH q p)
 | [],p,_=>by simp [eR]
 | a::r,p,hs=>by
  obtain ⟨h1,h2⟩:=List.pairwise_cons.1 hs
  obtain ⟨h3,h4⟩:=uE (p:=p) h2
  unfold eR
  split
  ·rename_i h
   refine ⟨fun q hq=>?_,fun q hq=>?_⟩
   ·rw [List.take_succ_cons] at hq
    rcases List.mem_cons.1 hq with e | e
    ·rw [e];exact h
    ·exact h3 q e
   ·rw [List.drop_succ_cons] at hq
    exact h4 q hq
  ·rename_i h
   refine ⟨fun q hq=>by simp at hq,fun q hq=>?_⟩
   rw [List.drop_zero] at hq
   rcases List.mem_cons.1 hq with e | e
   ·rw [e];exact h
   ·exact fun h'=>h (FD (h1 q e) h')
theorem Af {ps:List Pk}{p:Pk}(hs:uD ps){m:Int}(h0:0≤m)(h1:m<ps.length):bH (ix ps m) p↔m<eR ps p:=by
 obtain ⟨h2,h3⟩:=uE (p:=p) hs
 have hx:ps[m.toNat]? =some (ix ps m):=by
  have:m.toNat<ps.length:=by omega
  rw [List.getElem?_eq_getElem this]
  simp [ix,this]
 by_cases hm:m<eR ps p
 ·refine ⟨fun _=>hm,fun _=>h2 _ ?_⟩
  refine List.mem_of_getElem? (i:=m.toNat) ?_
  rw [List.getElem?_take,if_pos (by omega)]
  exact hx
 ·refine ⟨fun h=>?_,fun h=>absurd h hm⟩
  exact absurd h (h3 (ix ps m) (List.mem_of_getElem? (i:=m.toNat - eR ps p) (by rw [List.getElem?_drop,show eR ps p+(m.toNat - eR ps p)=m.toNat by omega];exact hx)))
def cN (ps:List Pk)(p:Pk):Prop:=∃ q∈ps,tF q p
theorem Du {ps:List Pk}{p:Pk}(hs:uD ps):cN ps p↔(eR ps p<ps.length∧tF (ix ps (eR ps p:Nat)) p):=by
 constructor
 ·rintro ⟨q,hq,e⟩
  obtain ⟨j,j0,j1,rfl⟩:=rS hq
  have hj:¬j<eR ps p:=fun h=>Pj ((Af hs j0 j1).2 h) e
  have hc:eR ps p<ps.length:=by omega
  refine ⟨hc,?_⟩
  by_cases hjc:j=(eR ps p:Nat)
  ·rw [←hjc];exact e
  ·have h1:¬bH (ix ps (eR ps p:Nat)) p:=fun h=>by have:=(Af hs (by omega) (by omega)).1 h;omega
   have h2:bH (ix ps (eR ps p:Nat)) (ix ps j):=by
    have a1:ix ps (eR ps p:Nat)=ps[eR ps p]:=by simp [ix,hc]
    have a2:ix ps j=ps[j.toNat]'(by omega):=by simp [ix,show j.toNat<ps.length by omega]
    rw [a1,a2]
    exact List.pairwise_iff_getElem.1 hs _ _ _ _ (by omega)
   unfold bH tF at *
   omega
 ·rintro ⟨h1,h2⟩
  exact ⟨_,mJ (by omega) (by omega),h2⟩
noncomputable def Na (ps:List Pk)(p:Pk):List Pk:=ps.take (eR ps p)++p::ps.drop (eR ps p)
theorem Nb {α:Type}{f:α→Bool}:∀ {l:List α},(∀ x∈l,f x=true)→l.filter f=l:=fun h=>List.filter_eq_self.2 h
theorem mB:∀ {ps:List Pk} {p:Pk},uD ps→¬cN ps p→eQ ps p=Na ps p
 | [],p,_,_=>rfl
 | a::r,p,hs,hn=>by
  obtain ⟨h1,h2⟩:=List.pairwise_cons.1 hs
  have hn':¬cN r p:=fun ⟨q,hq,e⟩=>hn ⟨q,List.mem_cons_of_mem _ hq,e⟩
  have ha:¬tF a p:=fun e=>hn ⟨a,List.mem_cons_self ..,e⟩
  have ih:=mB h2 hn'
  unfold eQ Na at *
  by_cases h:bH a p
  ·have e1:eR (a::r) p=eR r p+1:=by rw [eR,if_pos h]
   rw [e1,List.take_succ_cons,List.drop_succ_cons,List.cons_append,←ih,List.filter_cons,if_pos (decide_eq_true h),List.filter_cons,if_neg (by rw [decide_eq_true_eq];exact wC h)]
   simp
  ·have e1:eR (a::r) p=0:=by rw [eR,if_neg h]
   have hp:bH p a:=Jp h ha
   rw [e1]
   have e2:(a::r).filter (fun q=>decide (bH q p))=[]:=List.filter_eq_nil_iff.2 fun q hq=>by
    rw [decide_eq_true_eq]
    rcases List.mem_cons.1 hq with e | e
    ·rw [e];exact h
    ·exact fun h'=>h (FD (h1 q e) h')
   have e3:(a::r).filter (fun q=>decide (bH p q))=a::r:=Nb fun q hq=>by
    rw [decide_eq_true_eq]
    rcases List.mem_cons.1 hq with e | e
    ·rw [e];exact hp
    ·exact FD hp (h1 q e)
   rw [e2,e3]
   rfl
theorem Nc {ps:List Pk}{p q:Pk}:q∈Na ps p↔q∈ps∨q=p:=by
 unfold Na
 constructor
 ·intro h
  rcases List.mem_append.1 h with h | h
  ·exact .inl (List.mem_of_mem_take h)
  ·rcases List.mem_cons.1 h with h | h
   ·exact .inr h
   ·exact .inl (List.mem_of_mem_drop h)
 ·rintro (h | rfl)
  ·rw [←List.take_append_drop (eR ps p) ps] at h
   rcases List.mem_append.1 h with h | h
   ·exact List.mem_append_left _ h
   ·exact List.mem_append_right _ (List.mem_cons_of_mem _ h)
  ·exact List.mem_append_right _ (List.mem_cons_self ..)
theorem CV {ps:List Pk}{p:Pk}(hs:uD ps)(hn:¬cN ps p):uD (Na ps p):=by
 obtain ⟨h1,h2⟩:=uE (p:=p) hs
 have h3:uD (ps.take (eR ps p)++ps.drop (eR ps p)):=by rw [List.take_append_drop];exact hs
 obtain ⟨h4,h5,h6⟩:=List.pairwise_append.1 h3
 have h2':∀ q∈ps.drop (eR ps p),bH p q:=fun q hq=>Jp (h2 q hq) (fun e=>hn ⟨q,List.mem_of_mem_drop hq,e⟩)
 refine List.pairwise_append.2 ⟨h4,List.pairwise_cons.2 ⟨h2',h5⟩,fun a ha b hb=>?_⟩
 rcases List.mem_cons.1 hb with e | e
 ·rw [e];exact h1 a ha
 ·exact h6 a ha b e
theorem HC:∀ {s t:List Pk},uD s→uD t→(∀ q,q∈s↔q∈t)→s=t
 | [],[],_,_,_=>rfl
 | [],b::t,_,_,h=>absurd ((h b).2 (List.mem_cons_self ..)) (by simp)
 | a::s,[],_,_,h=>absurd ((h a).1 (List.mem_cons_self ..)) (by simp)
 | a::s,b::t,hs,ht,h=>by
  obtain ⟨a1,a2⟩:=List.pairwise_cons.1 hs
  obtain ⟨b1,b2⟩:=List.pairwise_cons.1 ht
  have hab:a=b:=by
   rcases List.mem_cons.1 ((h a).1 (List.mem_cons_self ..)) with e | e
   ·exact e
   ·rcases List.mem_cons.1 ((h b).2 (List.mem_cons_self ..)) with e' | e'
    ·exact e'.symm
    ·exact absurd (b1 a e) (wC (a1 b e'))
  subst hab
  have key:∀ q,q∈s↔q∈t:=fun q=>by
   constructor
   ·intro hq
    rcases List.mem_cons.1 ((h q).1 (List.mem_cons_of_mem _ hq)) with e | e
    ·exact absurd (a1 q hq) (by rw [e];exact fun h'=>wC h' h')
    ·exact e
   ·intro hq
    rcases List.mem_cons.1 ((h q).2 (List.mem_cons_of_mem _ hq)) with e | e
    ·exact absurd (b1 q hq) (by rw [e];exact fun h'=>wC h' h')
    ·exact e
  rw [HC a2 b2 key]
theorem Pl {α:Type}[Inhabited α]{l:List α}{n:Nat}(h:n<l.length):l.getD n default=l[n]:=by simp [List.getD,h]
theorem HD {s:List Pk}(h:uD s)(hP:∀ p∈s,PkOk p):jG s:=fun j j0 j1=>⟨hP _ (mJ j0 j1),fun h0=>by
 have a1:ix s (j - 1)=s[(j - 1).toNat]'(by omega):=Pl (by omega)
 have a2:ix s j=s[j.toNat]'(by omega):=by simp [ix,show j.toNat<s.length by omega]
 rw [a1,a2]
 exact List.pairwise_iff_getElem.1 h _ _ _ _ (by omega)⟩
end
section
open Classical
variable {W:Wld}

def fY (ws:List (List UInt8))(b:UInt8):List (List UInt8):=if b=32 then ws++[[]] else ws.set (ws.length - 1) (ix ws ((ws.length:Int) - 1)++[b])
def cJ (l:List UInt8):List (List UInt8):=l.foldl fY [[]]
abbrev eW (w:List UInt8):List D:=[.str (bA w)]
abbrev Sb (l:List (List UInt8)):List D:=[.sl (l.map eW)]
theorem Pm (ws:List (List UInt8))(i:Int)(hi:i.toNat<ws.length):cS (ws.map eW) i 0=bA (ix ws i):=by
 simp [cS,gQ,hi,RD]
theorem Nd (ws:List (List UInt8))(b:UInt8)(h:1≤ws.length):1≤(fY ws b).length∧(fY ws b).length≤ws.length+1:=by
 unfold fY
 split
 ·simp
 ·simp;omega
theorem wD:∀ (l:List UInt8) (ws:List (List UInt8)),1≤ws.length→1≤(l.foldl fY ws).length∧(l.foldl fY ws).length≤ws.length+l.length
 | [],ws,h=>⟨h,by simp⟩
 | b::r,ws,h=>by
  have h1:=Nd ws b h
  have h2:=wD r (fY ws b) h1.1
  simp only [List.foldl_cons,List.length_cons]
  omega
theorem Ir:∀ (l:List UInt8) (ws:List (List UInt8)) (n:Nat),(∀ w∈ws,w.length≤n)→∀ w∈l.foldl fY ws,w.length≤n+l.length
 | [],ws,n,h,w,hw=>by simpa using h w hw
 | b::r,ws,n,h,w,hw=>by
  have h1:∀ w∈fY ws b,w.length≤n+1:=by
   intro w hw
   unfold fY at hw
   split at hw
   ·rcases List.mem_append.1 hw with h' | h'
    ·have:=h w h';omega
    ·rw [List.mem_singleton.1 h'];simp
   ·rcases List.mem_or_eq_of_mem_set hw with h' | h'
    ·have:=h w h';omega
    ·have hx:(ix ws ((ws.length:Int) - 1)).length≤n:=by
      by_cases hl:((ws.length:Int) - 1).toNat<ws.length
      ·exact h _ (mJ (by omega) (by omega))
      ·rw [dJ hl];simp [default]
     rw [h']
     simp
     omega
  have:=Ir r (fY ws b) (n+1) h1 w hw
  simp only [List.length_cons]
  omega
theorem Nf {a b:UInt8}:((a.toNat:Int)=(b.toNat:Int))↔a=b:=by
 constructor
 ·intro h
  exact UInt8.toNat_inj.1 (by omega)
 ·rintro rfl;rfl
theorem Ng (l:List UInt8)(hl:l.length≤2000000):FunOk PP W xJ lX [sT l,[.int .u8 32]] [Sb (cJ l)]:=by
 refine Kc (aU ?_)
 refine aY rfl (fun i:Int=>0≤i∧i≤l.length) (fun i=>[(6,.val (i64 i)),(5,.val (Sb (cJ (l.take i.toNat)))),(0,.val (sT l)),(1,.val [.int .u8 32])]) (fun i=>(l.length - i).toNat) 0 ⟨by omega,by omega⟩ ⟨rfl,rfl,rfl,rfl,trivial⟩ rfl ?_
 rintro i e ⟨h0,hN⟩
 have hsz:=bA_size l
 have hcl:=wD (l.take i.toNat) [[]] (by simp)
 rw [List.length_take] at hcl
 have hcd:cJ (l.take i.toNat)=(l.take i.toNat).foldl fY [[]]:=rfl
 rw [←hcd] at hcl
 by_cases hi:i<l.length
 ·have hst:cJ (l.take (i+1).toNat)=fY (cJ (l.take i.toNat)) (ix l i):=by
   unfold cJ
   rw [gY l h0 hi,List.foldl_append]
   rfl
  have hb:=Ez l i (by omega)
  clear hcd
  have hcw:=Ir (l.take i.toNat) [[]] 0 (fun w hw=>by simp at hw;simp [hw])
  rw [Nat.zero_add,List.length_take,show min i.toNat l.length=i.toNat by omega] at hcw
  have hcd:cJ (l.take i.toNat)=(l.take i.toNat).foldl fY [[]]:=rfl
  rw [←hcd] at hcw
  clear hcd
  generalize cJ (l.take i.toNat)=ws at hst hcl hcw ⊢
  simp only [List.length_cons,List.length_nil] at hcl
  have hw64:IntKind.i64.wrap (((ws.map eW).length:Int) - 1)=(ws.length:Int) - 1:=by rw [List.length_map,aA _ (by omega)]
  have hlst:(ix ws ((ws.length:Int) - 1)).length≤i.toNat:=hcw _ (mJ (by omega) (by omega))
  have hcs:cS (ws.map eW) ((ws.length:Int) - 1) 0=bA (ix ws ((ws.length:Int) - 1)):=Pm ws _ (by omega)
  have hu:UInt8.ofNat (QU (bA l) i).toNat=ix l i:=by rw [hb];simp
  have h32:QU (bA l) i=32↔ix l i=32:=by
   rw [hb]
   exact Nf (b:=32)
  (repeat' first
  | (refine run_ite rfl (fun h=>?_) (fun h=>?_)<;>(try simp (disch:=omega) only [zB,eqDs,bM,Nat.reduceAdd,aA] at h)<;>(try (exfalso;omega)))
  | refine aI rfl ?_
  | refine aJ rfl ?_
  | refine aB rfl ?_ ?_
  | (refine aG rfl ?_;first | refine rb ?_ | refine ri ?_ | refine bV ?_ ?_ | refine cE ?_)
  | refine aD rfl ?_)
  ·refine aS rfl (Exists.intro (i+1) ⟨by omega,⟨by omega,by omega⟩,aX (aA _ (by omega)),jA ?_,rfl,rfl,trivial⟩)
   rw [hst,fY,if_pos (h32.1 h),List.map_append]
   rfl
  ·rw [hw64,hcs,bA_size,TU]
   unfold lim
   omega
  ·rw [hw64]
   exact Rb (sz:=1) (by omega) (by omega) (by omega) (fun _=>rfl) (Nat.le_of_ble_eq_true rfl)
  ·refine aS rfl (Exists.intro (i+1) ⟨by omega,⟨by omega,by omega⟩,aX (aA _ (by omega)),jA ?_,rfl,rfl,trivial⟩)
   rw [hst,fY,if_neg (fun h'=>h (h32.2 h')),hw64,hcs,hu]
   have e1:bA (ix ws ((ws.length:Int) - 1))++⟨#[ix l i]⟩=bA (ix ws ((ws.length:Int) - 1)++[ix l i]):=bA_app _ [ix l i]
   rw [e1,show ws.length - 1=((ws.length:Int) - 1).toNat by omega]
   exact PW (by omega) (by omega) rfl
 ·have ht:l.take i.toNat=l:=List.take_of_length_le (by omega)
  rw [ht]
  (repeat' first
  | (refine run_ite rfl (fun h=>?_) (fun h=>?_)<;>(try simp (disch:=omega) only [zB,eqDs,bM,Nat.reduceAdd,aA] at h)<;>(try (exfalso;omega)))
  | refine aI rfl ?_
  | refine aJ rfl ?_
  | refine aB rfl ?_ ?_
  | (refine aG rfl ?_;first | refine rb ?_ | refine ri ?_ | refine bV ?_ ?_ | refine cE ?_)
  | refine aD rfl ?_)
  rfl

/-! The words of a package's text. -/
theorem wF (n:Int)(h:0≤n∧n≤255):((u8 n).toNat:Int)=n:=by
 have:n.toNat<256:=by omega
 unfold u8
 rw [UInt8.toNat_ofNat']
 omega
theorem Jq (n:Int)(h:33≤n∧n≤255):u8 n≠32:=fun e=>by
 have h1:=wF n (by omega)
 rw [e] at h1
 have:(32:UInt8).toNat=32:=rfl
 omega
theorem oV:∀ (w:List UInt8),(∀ b∈w,b≠32)→∀ (ws:List (List UInt8)) (v:List UInt8),w.foldl fY (ws++[v])=ws++[v++w]
 | [],_,ws,v=>by simp
 | b::r,h,ws,v=>by
  have h1:fY (ws++[v]) b=ws++[v++[b]]:=by
   unfold fY
   rw [if_neg (h b (List.mem_cons_self ..))]
   have e:ix (ws++[v]) (((ws++[v]).length:Int) - 1)=v:=by
    have:(((ws++[v]).length:Int) - 1).toNat=ws.length:=by simp
    simp [ix,this]
   rw [e,show (ws++[v]).length - 1=ws.length by simp]
   simp
  rw [List.foldl_cons,h1,oV r (fun x hx=>h x (List.mem_cons_of_mem _ hx))]
  simp
theorem CW {α:Type}(f:α→List UInt8):∀ (xs:List α),(∀ x∈xs,∀ b∈f x,b≠32)→∀ ws:List (List UInt8),(xs.flatMap (fun x=>32::f x)).foldl fY ws=ws++xs.map f
 | [],_,ws=>by simp
 | x::r,h,ws=>by
  rw [List.flatMap_cons,List.foldl_append,List.foldl_cons]
  have:fY ws 32=ws++[[]]:=by unfold fY;rw [if_pos rfl]
  rw [this,oV (f x) (h x (List.mem_cons_self ..)),CW f r (fun y hy=>h y (List.mem_cons_of_mem _ hy))]
  simp
def fW (f:P2):List UInt8:=[u8 (48+f.a),58,u8 (48+f.b)]
def dW (d:P2):List UInt8:=nmT d.a d.b
def cO (p:Pk):List (List UInt8):=nmT p.name p.ver::(p.files.map fW++p.deps.map dW)
theorem Nh {n v:Int}(hn:1≤n∧n≤4)(hv:1≤v∧v≤5):∀ b∈nmT n v,b≠32:=by
 intro b hb
 simp only [nmT,List.mem_cons,List.not_mem_nil,or_false] at hb
 rcases hb with rfl | rfl
 ·exact Jq _ (by omega)
 ·exact Jq _ (by omega)
theorem wG {p:Pk}(h:PkOk p):cJ (textM p)=cO p:=by
 have hF:=h.2.2.1.1
 have hD:=h.2.2.2.1
 have e:textM p=nmT p.name p.ver++p.files.flatMap (fun f=>32::fW f)++p.deps.flatMap (fun d=>32::dW d):=by
  rw [textM,if_pos h]
  rfl
 unfold cJ
 rw [e,List.foldl_append,List.foldl_append]
 have h1:(nmT p.name p.ver).foldl fY [[]]=[nmT p.name p.ver]:=oV _ (Nh h.1 h.2.1) [] []
 rw [h1,CW fW p.files (fun f hf b hb=>by
  obtain ⟨j,j0,j1,rfl⟩:=rS hf
  obtain ⟨a1,a2,_⟩:=hF j j0 j1
  simp only [fW,List.mem_cons,List.not_mem_nil,or_false] at hb
  rcases hb with rfl | rfl | rfl
  ·exact Jq _ (by omega)
  ·decide
  ·exact Jq _ (by omega)),CW dW p.deps (fun d hd=>by
  obtain ⟨j,j0,j1,rfl⟩:=rS hd
  obtain ⟨a1,_,a2,_⟩:=hD j j0 j1
  exact Nh a1 a2)]
 simp [cO]
end
section
open Classical

theorem Ni (ws xs:List (List UInt8))(b:UInt8)(h:xs≠[]):fY (ws++xs) b=ws++fY xs b:=by
 have hl:0<xs.length:=List.length_pos_iff.2 h
 unfold fY
 by_cases hb:b=32
 ·rw [if_pos hb,if_pos hb,List.append_assoc]
 ·rw [if_neg hb,if_neg hb]
  have e1:ix (ws++xs) (((ws++xs).length:Int) - 1)=ix xs ((xs.length:Int) - 1):=by
   have a1:(((ws++xs).length:Int) - 1).toNat=ws.length+(xs.length - 1):=by rw [List.length_append];omega
   have a2:((xs.length:Int) - 1).toNat=xs.length - 1:=by omega
   simp only [ix,a1,a2,List.getElem?_append_right (Nat.le_add_right _ _),Nat.add_sub_cancel_left,List.getD_eq_getElem?_getD]
  rw [e1,List.set_append_right _ _ (by rw [List.length_append];omega),show (ws++xs).length - 1 - ws.length=xs.length - 1 by rw [List.length_append];omega]
theorem Pn (xs:List (List UInt8))(b:UInt8)(h:xs≠[]):fY xs b≠[]:=by
 unfold fY
 split
 ·simp
 ·simp [h]
theorem Jr:∀ (r:List UInt8) (ws xs:List (List UInt8)),xs≠[]→r.foldl fY (ws++xs)=ws++r.foldl fY xs
 | [],ws,xs,_=>rfl
 | b::r,ws,xs,h=>by rw [List.foldl_cons,List.foldl_cons,Ni ws xs b h,Jr r ws _ (Pn xs b h)]
theorem Nj {w:List UInt8}(hw:∀ b∈w,b≠32)(r:List UInt8):cJ (w++32::r)=w::cJ r:=by
 unfold cJ
 rw [List.foldl_append,List.foldl_cons]
 have h1:w.foldl fY [[]]=[w]:=oV w hw [] []
 rw [h1]
 have h2:fY [w] 32=[w]++[[]]:=by unfold fY;rw [if_pos rfl]
 rw [h2,Jr r [w] [[]] (by simp)]
 rfl
theorem Po {w:List UInt8}(hw:∀ b∈w,b≠32):cJ w=[w]:=oV w hw [] []
theorem Dv:∀ (n:Nat) (l:List UInt8),l.length≤n→Lib.splitK [32] 0 (Lib.count l [32]) l=cJ l
 | n,l,hn=>by
  rcases Lib.index_spec l [32] with ⟨h1,_⟩ | ⟨i,h1,h2,_,_⟩
  ·have hno:∀ b∈l,b≠32:=fun b hb e=>by
    subst e
    obtain ⟨k,hk⟩:=List.mem_iff_getElem?.1 hb
    exact Lib.indexByte_none ((Lib.index_one l 32).symm.trans h1) k hk
   rw [Lib.count_miss h1,Po hno]
   rfl
  ·have hi:=(Lib.index_one l 32).symm.trans h1
   obtain ⟨g1,g2⟩:=Lib.indexByte_some hi
   have hlt:i<l.length:=(List.getElem?_eq_some_iff.1 g1).1
   have hd:l=l.take i++32::l.drop (i+1):=by
    have:l[i]=32:=(List.getElem?_eq_some_iff.1 g1).2
    rw [←this,←List.drop_eq_getElem_cons hlt,List.take_append_drop]
   have hw:∀ b∈l.take i,b≠32:=fun b hb e=>by
    subst e
    obtain ⟨k,hk⟩:=List.mem_iff_getElem?.1 hb
    have hk':=(List.getElem?_eq_some_iff.1 hk).1
    rw [List.length_take] at hk'
    rw [List.getElem?_take_of_lt (by omega)] at hk
    exact g2 k (by omega) hk
   have hc:Lib.count l [32]=1+Lib.count (l.drop (i+1)) [32]:=Lib.count_hit (by simp) h1
   rw [hc,Nat.add_comm]
   have hs:Lib.splitK [32] 0 (Lib.count (l.drop (i+1)) [32]+1) l=l.take i::Lib.splitK [32] 0 (Lib.count (l.drop (i+1)) [32]) (l.drop (i+1)):=by
    rw [Lib.splitK,h1,if_neg (by simp),Int.toNat_natCast]
    rfl
   cases n with
   | zero=>omega
   | succ n=>
    rw [hs,Dv n (l.drop (i+1)) (by rw [List.length_drop];omega)]
    conv=>rhs;rw [hd]
    rw [Nj hw]
theorem Pp (s:ByteArray):bA s.data.toList=s:=by
 apply ByteArray.ext
 simp [bA]
theorem Is (l:List UInt8):Lib.splitB ⟨#[32]⟩ 0 (Lib.countB (bA l) ⟨#[32]⟩) (bA l)=(cJ l).map bA:=by
 have h:=Lib.splitB_data ⟨#[32]⟩ 0 (Lib.countB (bA l) ⟨#[32]⟩) (bA l)
 have e:Lib.splitK [32] 0 (Lib.count l [32]) l=cJ l:=Dv l.length l (Nat.le_refl _)
 have h':(Lib.splitB ⟨#[32]⟩ 0 (Lib.countB (bA l) ⟨#[32]⟩) (bA l)).map (·.data.toList)=cJ l:=h.trans e
 rw [←h',List.map_map]
 have:(bA∘fun s:ByteArray=>s.data.toList)=id:=by
  funext s
  exact Pp s
 rw [this]
 simp
/-! A word cut at a colon; a digit read. -/
theorem FF (n:Int)(h:(48≤n∧n≤57)∨(59≤n∧n≤255)):u8 n≠58:=fun e=>by
 have h1:=wF n (by omega)
 rw [e] at h1
 have:(58:UInt8).toNat=58:=rfl
 omega
theorem Sc (x y:UInt8)(hx:x≠58):Lib.index [x,58,y] [58]=1:=by
 have h1:(58==x)=false:=by simp;exact fun e=>hx e.symm
 simp [Lib.index,List.isPrefixOf,h1]
theorem Rd (x y:UInt8)(hx:x≠58)(hy:y≠58):Lib.index [x,y] [58]= -1:=by
 have h1:(58==x)=false:=by simp;exact fun e=>hx e.symm
 have h2:(58==y)=false:=by simp;exact fun e=>hy e.symm
 simp [Lib.index,List.isPrefixOf,h1,h2]
theorem Re (f:P2)(ha:0≤f.a∧f.a≤5):Lib.cut (fW f) [58]=([u8 (48+f.a)],[u8 (48+f.b)],true):=by
 have h:=Sc (u8 (48+f.a)) (u8 (48+f.b)) (FF _ (.inl (by omega)))
 unfold Lib.cut fW
 rw [h,if_pos (by decide)]
 rfl
theorem Pq {n v:Int}(hn:1≤n∧n≤4)(hv:1≤v∧v≤5):Lib.cut (nmT n v) [58]=(nmT n v,[],false):=by
 have h:=Rd (u8 (97+n - 1)) (u8 (48+v)) (FF _ (.inr (by omega))) (FF _ (.inl (by omega)))
 unfold Lib.cut nmT
 rw [h,if_neg (by decide)]
end
section
open Classical

def nu (w:List UInt8)(i d:Int):Int:=((ix w i).toNat:Int) - d
def sN (p:Pk)(i:Int)(w:List UInt8):Pk:=
 if i=0∧w.length=2 then ⟨nu w 0 96,nu w 1 48,p.files,p.deps⟩
 else if 0<i∧w.length=3 then ⟨p.name,p.ver,p.files++[⟨nu w 0 48,nu w 2 48⟩],p.deps⟩
 else if 0<i∧w.length=2 then ⟨p.name,p.ver,p.files,p.deps++[⟨nu w 0 96,nu w 1 48⟩]⟩
 else p
def QY:Pk:=⟨0,0,[],[]⟩
def AP (ws:List (List UInt8)):Nat→Pk
 | 0=>QY
 | n+1=>sN (AP ws n) n (ix ws n)
theorem Nk (ws:List (List UInt8)){i:Int}(h:0≤i):AP ws (i+1).toNat=sN (AP ws i.toNat) i (ix ws i):=by
 obtain ⟨k,rfl⟩:∃ k:Nat,i=k:=⟨i.toNat,by omega⟩
 rfl
theorem Js (ws:List (List UInt8)):∀ n,(AP ws n).files.length≤n∧(AP ws n).deps.length≤n
 | 0=>⟨Nat.le_refl _,Nat.le_refl _⟩
 | n+1=>by
  have h:=Js ws n
  show (sN (AP ws n) n (ix ws n)).files.length≤n+1∧(sN (AP ws n) n (ix ws n)).deps.length≤n+1
  unfold sN
  split
  ·exact ⟨by have:=h.1;show (AP ws n).files.length≤n+1;omega,by have:=h.2;show (AP ws n).deps.length≤n+1;omega⟩
  ·split
   ·simp;omega
   ·split
    ·simp;omega
    ·omega
def Nl (l:List UInt8):Int:=
 match Lib.atoiAll l with
 | .ok v=>v
 | .«syntax»=>0
 | .range=>Lib.atoiSat l
def HL (w:List UInt8):P2:=if w=[] then ⟨0,0⟩ else ⟨nu w 0 96,Nl (w.drop 1)⟩
def CX (p:Pk)(w:List UInt8):Pk:=
 if (Lib.cut w [58]).2.2=true then ⟨p.name,p.ver,p.files++[⟨Nl (Lib.cut w [58]).1,Nl (Lib.cut w [58]).2.1⟩],p.deps⟩
 else ⟨p.name,p.ver,p.files,p.deps++[HL w]⟩
def Dw (ws:List (List UInt8)):Nat→Pk
 | 0=>⟨(HL (ix ws 0)).a,(HL (ix ws 0)).b,[],[]⟩
 | n+1=>CX (Dw ws n) (ix (ws.drop 1) n)
theorem Nm (ws:List (List UInt8)){i:Int}(h:0≤i):Dw ws (i+1).toNat=CX (Dw ws i.toNat) (ix (ws.drop 1) i):=by
 obtain ⟨k,rfl⟩:∃ k:Nat,i=k:=⟨i.toNat,by omega⟩
 rfl
theorem Jt (ws:List (List UInt8)):∀ n,(Dw ws n).files.length≤n∧(Dw ws n).deps.length≤n
 | 0=>⟨Nat.le_refl _,Nat.le_refl _⟩
 | n+1=>by
  have h:=Jt ws n
  show (CX (Dw ws n) (ix (ws.drop 1) n)).files.length≤n+1∧(CX (Dw ws n) (ix (ws.drop 1) n)).deps.length≤n+1
  unfold CX
  split
  ·simp;omega
  ·simp;omega
noncomputable def wH (l:List UInt8):Option Pk:=if h:∃ p,PkOk p∧textM p=l then some h.choose else none
theorem Pr {n:Int}(h:0≤n∧n≤9):(((u8 (48+n)).toNat:Int)) - 48=n:=by rw [wF _ (by omega)];omega
theorem Rf {n:Int}(h:1≤n∧n≤4):(((u8 (97+n - 1)).toNat:Int)) - 96=n:=by rw [wF _ (by omega)];omega
theorem Rg {d:Int}(h:0≤d∧d≤9):Nl [u8 (48+d)]=d:=by
 have:d=0∨d=1∨d=2∨d=3∨d=4∨d=5∨d=6∨d=7∨d=8∨d=9:=by omega
 rcases this with rfl | rfl | rfl | rfl | rfl | rfl | rfl | rfl | rfl | rfl<;>decide
theorem xU {p:Pk}(h:PkOk p):AP (cO p) (cO p).length=p:=by
 obtain ⟨hn,hv,⟨hF,hf2⟩,hD,hd2⟩:=h
 obtain ⟨name,ver,files,deps⟩:=p
 dsimp only at hn hv hF hf2 hD hd2
 have a1:=Rf hn
 have a2:=Pr (n:=ver) (by omega)
 have fk:∀ j:Int,0≤j→j<files.length→nu (fW (ix files j)) 0 48=(ix files j).a∧nu (fW (ix files j)) 2 48=(ix files j).b:=fun j j0 j1=>by
  obtain ⟨h1,h2,_⟩:=hF j j0 j1
  exact ⟨Pr (by omega),Pr (by omega)⟩
 have dk:∀ j:Int,0≤j→j<deps.length→nu (dW (ix deps j)) 0 96=(ix deps j).a∧nu (dW (ix deps j)) 1 48=(ix deps j).b:=fun j j0 j1=>by
  obtain ⟨h1,_,h2,_⟩:=hD j j0 j1
  exact ⟨Rf (by omega),Pr (by omega)⟩
 have e0:AP (cO ⟨name,ver,files,deps⟩) 1=⟨name,ver,[],[]⟩:=by
  show sN QY 0 (nmT name ver)=_
  unfold sN
  rw [if_pos ⟨rfl,rfl⟩]
  show (⟨((u8 (97+name - 1)).toNat:Int) - 96,((u8 (48+ver)).toNat:Int) - 48,[],[]⟩:Pk)=_
  rw [a1,a2]
 have e1:∀ k:Nat,k≤files.length→AP (cO ⟨name,ver,files,deps⟩) (1+k)=⟨name,ver,files.take k,[]⟩:=by
  intro k
  induction k with
  | zero=>intro _;exact e0
  | succ k ih=>
   intro hk
   show sN (AP (cO ⟨name,ver,files,deps⟩) (1+k)) ((1+k:Nat):Int) (ix (cO ⟨name,ver,files,deps⟩) ((1+k:Nat):Int))=_
   rw [ih (by omega)]
   have hw:ix (cO ⟨name,ver,files,deps⟩) ((1+k:Nat):Int)=fW (ix files (k:Int)):=by
    have e1:(((1+k:Nat)):Int).toNat=k+1:=by omega
    simp only [ix,e1]
    simp [cO,List.getElem?_append,show k<files.length by omega]
   obtain ⟨q1,q2⟩:=fk k (by omega) (by omega)
   rw [hw]
   unfold sN
   rw [if_neg (fun hh=>by have:=hh.1;omega),if_pos ⟨by omega,rfl⟩,q1,q2]
   show (⟨name,ver,files.take k++[ix files (k:Int)],[]⟩:Pk)=_
   have ht:=gY files (i:=(k:Int)) (by omega) (by omega)
   rw [show ((k:Int)+1).toNat=k+1 by omega,show ((k:Int)).toNat=k by omega] at ht
   rw [ht]
 have e2:∀ k:Nat,k≤deps.length→AP (cO ⟨name,ver,files,deps⟩) (1+files.length+k)=⟨name,ver,files,deps.take k⟩:=by
  intro k
  induction k with
  | zero=>intro _;exact (e1 files.length (Nat.le_refl _)).trans (by rw [List.take_length];rfl)
  | succ k ih=>
   intro hk
   show sN (AP (cO ⟨name,ver,files,deps⟩) (1+files.length+k)) ((1+files.length+k:Nat):Int) (ix (cO ⟨name,ver,files,deps⟩) ((1+files.length+k:Nat):Int))=_
   rw [ih (by omega)]
   have hw:ix (cO ⟨name,ver,files,deps⟩) ((1+files.length+k:Nat):Int)=dW (ix deps (k:Int)):=by
    have e1:(((1+files.length+k:Nat)):Int).toNat=(files.length+k)+1:=by omega
    simp only [ix,e1]
    simp [cO,List.getElem?_append,show k<deps.length by omega]
   obtain ⟨q1,q2⟩:=dk k (by omega) (by omega)
   rw [hw]
   unfold sN
   rw [if_neg (fun hh=>by have:=hh.1;omega),if_neg (fun hh=>by have:=hh.2;cases this),if_pos ⟨by omega,rfl⟩,q1,q2]
   show (⟨name,ver,files,deps.take k++[ix deps (k:Int)]⟩:Pk)=_
   have ht:=gY deps (i:=(k:Int)) (by omega) (by omega)
   rw [show ((k:Int)+1).toNat=k+1 by omega,show ((k:Int)).toNat=k by omega] at ht
   rw [ht]
 have hl:(cO ⟨name,ver,files,deps⟩).length=1+files.length+deps.length:=by simp [cO];omega
 rw [hl,e2 deps.length (Nat.le_refl _),List.take_length]
theorem Nn {n v:Int}(hn:1≤n∧n≤4)(hv:1≤v∧v≤5):HL (nmT n v)=⟨n,v⟩:=by
 unfold HL
 rw [if_neg (by simp [nmT])]
 have h2:Nl ((nmT n v).drop 1)=v:=Rg (d:=v) (by omega)
 rw [h2]
 have h1:nu (nmT n v) 0 96=n:=Rf hn
 rw [h1]
theorem LE {p:Pk}(h:PkOk p):Dw (cO p) ((cO p).length - 1)=p:=by
 obtain ⟨hn,hv,⟨hF,hf2⟩,hD,hd2⟩:=h
 obtain ⟨name,ver,files,deps⟩:=p
 dsimp only at hn hv hF hf2 hD hd2
 have e0:Dw (cO ⟨name,ver,files,deps⟩) 0=⟨name,ver,[],[]⟩:=by
  show (⟨(HL (nmT name ver)).a,(HL (nmT name ver)).b,[],[]⟩:Pk)=_
  rw [Nn hn hv]
 have e1:∀ k:Nat,k≤files.length→Dw (cO ⟨name,ver,files,deps⟩) k=⟨name,ver,files.take k,[]⟩:=by
  intro k
  induction k with
  | zero=>intro _;exact e0
  | succ k ih=>
   intro hk
   show CX (Dw (cO ⟨name,ver,files,deps⟩) k) (ix (files.map fW++deps.map dW) (k:Int))=_
   rw [ih (by omega)]
   have hw:ix (files.map fW++deps.map dW) (k:Int)=fW (ix files (k:Int)):=by
    simp [ix,List.getElem?_append,show k<files.length by omega]
   obtain ⟨h1,h2,_⟩:=hF k (by omega) (by omega)
   rw [hw]
   unfold CX
   rw [Re _ (by omega),if_pos rfl]
   show (⟨name,ver,files.take k++[⟨Nl [u8 (48+(ix files (k:Int)).a)],Nl [u8 (48+(ix files (k:Int)).b)]⟩],[]⟩:Pk)=_
   rw [Rg (by omega),Rg (by omega)]
   have ht:=gY files (i:=(k:Int)) (by omega) (by omega)
   rw [show ((k:Int)+1).toNat=k+1 by omega,show ((k:Int)).toNat=k by omega] at ht
   rw [ht]
 have e2:∀ k:Nat,k≤deps.length→Dw (cO ⟨name,ver,files,deps⟩) (files.length+k)=⟨name,ver,files,deps.take k⟩:=by
  intro k
  induction k with
  | zero=>intro _;exact (e1 files.length (Nat.le_refl _)).trans (by rw [List.take_length];rfl)
  | succ k ih=>
   intro hk
   show CX (Dw (cO ⟨name,ver,files,deps⟩) (files.length+k)) (ix (files.map fW++deps.map dW) ((files.length+k:Nat):Int))=_
   rw [ih (by omega)]
   have hw:ix (files.map fW++deps.map dW) ((files.length+k:Nat):Int)=dW (ix deps (k:Int)):=by
    have e1:(((files.length+k:Nat)):Int).toNat=(files.length+k):=by omega
    simp only [ix,e1]
    simp [List.getElem?_append,show k<deps.length by omega]
   obtain ⟨h1,_,h2,_⟩:=hD k (by omega) (by omega)
   rw [hw]
   unfold CX dW
   rw [Pq h1 h2,if_neg (by simp),Nn h1 h2]
   show (⟨name,ver,files,deps.take k++[ix deps (k:Int)]⟩:Pk)=_
   have ht:=gY deps (i:=(k:Int)) (by omega) (by omega)
   rw [show ((k:Int)+1).toNat=k+1 by omega,show ((k:Int)).toNat=k by omega] at ht
   rw [ht]
 have hl:(cO ⟨name,ver,files,deps⟩).length - 1=files.length+deps.length:=by simp [cO]
 rw [hl,e2 deps.length (Nat.le_refl _),List.take_length]
theorem LF {p q:Pk}(hp:PkOk p)(hq:PkOk q)(h:textM p=textM q):p=q:=by
 have h1:=xU hp
 have h2:=xU hq
 rw [←wG hp] at h1
 rw [←wG hq,←h] at h2
 exact h1.symm.trans h2
theorem CY {p:Pk}(hp:PkOk p):wH (textM p)=some p:=by
 have h:∃ q,PkOk q∧textM q=textM p:=⟨p,hp,rfl⟩
 unfold wH
 rw [dif_pos h]
 exact congrArg some (LF h.choose_spec.1 hp h.choose_spec.2)
theorem CZ {l:List UInt8}{p:Pk}(h:wH l=some p):PkOk p∧textM p=l:=by
 unfold wH at h
 by_cases h':∃ p,PkOk p∧textM p=l
 ·rw [dif_pos h'] at h
  cases h
  exact h'.choose_spec
 ·rw [dif_neg h'] at h
  cases h
theorem Ag {l:List UInt8}(h:∀ p,PkOk p→textM p≠l):wH l=none:=by
 unfold wH
 rw [dif_neg]
 rintro ⟨p,h1,h2⟩
 exact h p h1 h2
theorem Sd (l:List UInt8):wH l=if PkOk (AP (cJ l) (cJ l).length)∧textM (AP (cJ l) (cJ l).length)=l then some (AP (cJ l) (cJ l).length) else none:=by
 by_cases h:PkOk (AP (cJ l) (cJ l).length)∧textM (AP (cJ l) (cJ l).length)=l
 ·rw [if_pos h]
  have:=CY h.1
  rw [h.2] at this
  exact this
 ·rw [if_neg h]
  refine Ag fun p h1 h2=>h ?_
  rw [←h2,wG h1,xU h1]
  exact ⟨h1,rfl⟩
theorem Se (l:List UInt8):wH l=if PkOk (Dw (cJ l) ((cJ l).length - 1))∧textM (Dw (cJ l) ((cJ l).length - 1))=l then some (Dw (cJ l) ((cJ l).length - 1)) else none:=by
 by_cases h:PkOk (Dw (cJ l) ((cJ l).length - 1))∧textM (Dw (cJ l) ((cJ l).length - 1))=l
 ·rw [if_pos h]
  have:=CY h.1
  rw [h.2] at this
  exact this
 ·rw [if_neg h]
  refine Ag fun p h1 h2=>h ?_
  rw [←h2,wG h1,LE h1]
  exact ⟨h1,rfl⟩
theorem LG {p:Pk}(h:¬PkOk p):textM p=[]:=by unfold textM;rw [if_neg h]
theorem No {p:Pk}(h:PkOk p):textM p≠[]:=by unfold textM;rw [if_pos h];simp [nmT]
theorem Ps:wH []=none:=Ag fun _ h=>No h
theorem HE {l:List UInt8}(h:30<l.length):wH l=none:=Ag fun p _ e=>by have:=mA p;rw [e] at this;omega
noncomputable def Pt (o:Option Pk):Pk:=o.getD QY
end
section
open Classical
variable {W:Wld}

theorem Np (bs:ByteArray):∀ (n i:Nat) (r:List UInt8),bs.size - i=n→ByteArray.toList.loop bs i r=r.reverse++bs.data.toList.drop i:=by
 intro n
 induction n with
 | zero=>
  intro i r h
  unfold ByteArray.toList.loop
  rw [if_neg (by omega),List.drop_eq_nil_of_le (by show bs.data.size≤i;have:bs.data.size=bs.size:=rfl;omega),List.append_nil]
 | succ n ih=>
  intro i r h
  have hs:bs.data.size=bs.size:=rfl
  unfold ByteArray.toList.loop
  rw [if_pos (by omega),ih (i+1) _ (by omega),List.reverse_cons,List.append_assoc,List.singleton_append]
  have hd:bs.data.toList.drop i=bs.data.toList[i]'(by show i<bs.data.size;omega)::bs.data.toList.drop (i+1):=List.drop_eq_getElem_cons _
  rw [hd]
  have hg:bs.get! i=bs.data.toList[i]'(by show i<bs.data.size;omega):=by
   show bs.data[i]! =_
   rw [getElem!_pos bs.data i (by omega)]
   simp
  rw [hg]
theorem Dx (bs:ByteArray):bs.toList=bs.data.toList:=by
 unfold ByteArray.toList
 rw [Np bs bs.size 0 [] (by omega)]
 simp
theorem uF {a b:List UInt8}:(bA a).toList=(bA b).toList↔a=b:=by
 rw [Dx,Dx]
 simp [bA]
theorem Sg {n v n' v':Int}{f f' d d':List P2}(h1:n=n')(h2:v=v')(h3:f=f')(h4:d=d'):([.int .i64 n,.int .i64 v,.sl (f.map eP2),.sl (d.map eP2)]:List D)=ePk ⟨n',v',f',d'⟩:=by subst h1;subst h2;subst h3;subst h4;rfl
theorem Nq {n v a b a' b':Int}{f d:List P2}(h1:a=a')(h2:b=b'):([.int .i64 n,.int .i64 v,.sl (f.map eP2++[[.int .i64 a,.int .i64 b]]),.sl (d.map eP2)]:List D)=ePk ⟨n,v,f++[⟨a',b'⟩],d⟩:=by
 subst h1;subst h2
 show _=([.int .i64 n,.int .i64 v,.sl ((f++[(⟨a,b⟩:P2)]).map eP2),.sl (d.map eP2)]:List D)
 rw [List.map_append]
 rfl
theorem Nr {n v a b a' b':Int}{f d:List P2}(h1:a=a')(h2:b=b'):([.int .i64 n,.int .i64 v,.sl (f.map eP2),.sl (d.map eP2++[[.int .i64 a,.int .i64 b]])]:List D)=ePk ⟨n,v,f,d++[⟨a',b'⟩]⟩:=by
 subst h1;subst h2
 show _=([.int .i64 n,.int .i64 v,.sl (f.map eP2),.sl ((d++[(⟨a,b⟩:P2)]).map eP2)]:List D)
 rw [List.map_append]
 rfl
theorem Pu (w:List UInt8)(i d:Int)(h:0≤d∧d≤100)(b:Int)(hb:b=((ix w i).toNat:Int)):IntKind.i64.wrap (IntKind.i64.wrap b - d)=nu w i d:=by
 have:=(ix w i).toNat_lt
 rw [hb,aA ((ix w i).toNat:Int) (by omega),aA _ (by omega)]
 rfl
theorem Nt (w:List UInt8)(i:Int)(b:Int)(hb:b=((ix w i).toNat:Int)):IntKind.i64.wrap (IntKind.i64.wrap (IntKind.i64.wrap b - 97)+1)=nu w i 96:=by
 have:=(ix w i).toNat_lt
 rw [hb,aA ((ix w i).toNat:Int) (by omega),aA (((ix w i).toNat:Int) - 97) (by omega),aA _ (by omega)]
 unfold nu
 omega
theorem Ca (l:List UInt8)(hl:l.length≤2000000):FunOk PP W kT eD [sT l] [ePk (Pt (wH l)),bo (wH l).isSome]:=by
 refine GK (aU ?_)
 have hsz:=bA_size l
 by_cases h30:30<l.length
 ·rw [HE h30]
  (repeat' first
  | (refine run_ite rfl (fun h=>?_) (fun h=>?_)<;>(try simp (disch:=omega) only [zB,eqDs,bM,Nat.reduceAdd,aA] at h)<;>(try (exfalso;omega)))
  | refine aI rfl ?_
  | refine aJ rfl ?_
  | refine aB rfl ?_ ?_
  | (refine aG rfl ?_;first | refine rb ?_ | refine ri ?_ | refine bV ?_ ?_ | refine cE ?_)
  | refine aD rfl ?_)
  all_goals rfl
 have hc:=Ng (W:=W) l hl
 have hws:=wD l [[]] (by simp)
 simp only [List.length_cons,List.length_nil] at hws
 have hcd:l.foldl fY [[]]=cJ l:=rfl
 rw [hcd] at hws
 have hT:=Sd l
 generalize cJ l=ws at hc hws hT
 (repeat' first
  | (refine run_ite rfl (fun h=>?_) (fun h=>?_)<;>(try simp (disch:=omega) only [zB,eqDs,bM,Nat.reduceAdd,aA] at h)<;>(try (exfalso;omega)))
  | refine aI rfl ?_
  | refine aJ rfl ?_
  | refine aE rfl (hc) rfl ?_
  | refine aB rfl ?_ ?_
  | (refine aG rfl ?_;first | refine rb ?_ | refine ri ?_ | refine bV ?_ ?_ | refine cE ?_)
  | refine aD rfl ?_)
 refine aY rfl (fun i:Int=>0≤i∧i≤ws.length) (fun i=>[(6,.val (i64 i)),(4,.val (Sb ws)),(5,.val (ePk (AP ws i.toNat))),(0,.val (sT l)),(2,.val [.int .i64 0,.int .i64 0,.sl [],.sl []])]) (fun i=>(ws.length - i).toNat) 0 ⟨by omega,by omega⟩ ⟨rfl,rfl,rfl,rfl,rfl,trivial⟩ rfl ?_
 rintro i e ⟨h0,hN⟩
 have hrl:=Js ws i.toNat
 by_cases hi:i<ws.length
 ·have hcs:cS (ws.map eW) i 0=bA (ix ws i):=Pm _ i (by omega)
  have hbt:∀ j:Int,j.toNat<(ix ws i).length→QU (cS (ws.map eW) i 0) j=((ix (ix ws i) j).toNat:Int):=fun j hj=>by rw [hcs];exact Ez _ j hj
  have hsz2:(cS (ws.map eW) i 0).size=(ix ws i).length:=by rw [hcs,bA_size]
  have hst:=Nk ws h0
  generalize AP ws i.toNat=p at hrl hst
  generalize ix ws i=w at hbt hsz2 hst
  (repeat' first
  | (refine run_ite rfl (fun h=>?_) (fun h=>?_)<;>(try simp (disch:=omega) only [zB,eqDs,bM,Nat.reduceAdd,aA] at h)<;>(try (exfalso;omega)))
  | refine aI rfl ?_
  | refine aJ rfl ?_
  | (refine aS rfl (Exists.intro (i+1) ⟨by omega,⟨by omega,by omega⟩,aX (aA _ (by omega)),rfl,?_,rfl,rfl,trivial⟩))
  | refine aB rfl ?_ ?_
  | (refine aG rfl ?_;first | refine rb ?_ | refine ri ?_ | refine bV ?_ ?_ | refine cE ?_)
  | refine aD rfl ?_)
  ·rw [hst,sN,if_pos ⟨by assumption,by omega⟩]
   exact Sg (Nt w 0 _ (hbt 0 (by show 0<_;omega))) (Pu w 1 48 (by omega) _ (hbt 1 (by show 1<_;omega))) rfl rfl
  ·rw [hst,sN,if_neg (by omega),if_neg (by omega),if_neg (by omega)]
   rfl
  ·rw [hst,sN,if_neg (by omega),if_pos ⟨by assumption,by omega⟩]
   exact Nq (Pu w 0 48 (by omega) _ (hbt 0 (by show 0<_;omega))) (Pu w 2 48 (by omega) _ (hbt 2 (by show 2<_;omega)))
  ·rw [hst,sN,if_neg (by omega),if_neg (by omega),if_pos ⟨by assumption,by omega⟩]
   exact Nr (Nt w 0 _ (hbt 0 (by show 0<_;omega))) (Pu w 1 48 (by omega) _ (hbt 1 (by show 1<_;omega)))
  ·rw [hst,sN,if_neg (by omega),if_neg (by omega),if_neg (by omega)]
   rfl
 ·have hi':i=ws.length:=by omega
  subst hi'
  have hr:AP ws (ws.length:Int).toNat=AP ws ws.length:=rfl
  rw [hr] at hrl ⊢
  generalize AP ws ws.length=p at hrl hT
  have hs:SmP p:=⟨by unfold lim;omega,by unfold lim;omega⟩
  have h1:¬(bA (textM p)).toList=(bA l).toList→wH l=none:=fun h=>by rw [hT,if_neg (fun h'=>h (uF.2 h'.2))]
  have h2:(bA l).toList=(⟨#[]⟩:ByteArray).toList→wH l=none:=fun h=>by
   have:l=[]:=(uF (a:=l) (b:=[])).1 h
   rw [this]
   exact Ps
  have h3:(bA (textM p)).toList=(bA l).toList→¬(bA l).toList=(⟨#[]⟩:ByteArray).toList→wH l=some p:=fun h h'=>by
   have e:=uF.1 h
   by_cases hp:PkOk p
   ·rw [hT,if_pos ⟨hp,e⟩]
   ·rw [LG hp] at e
    exact absurd (uF.2 e.symm) h'
  (repeat' first
  | (refine run_ite rfl (fun h=>?_) (fun h=>?_)<;>(try simp (disch:=omega) only [zB,eqDs,bM,Nat.reduceAdd,aA] at h)<;>(try (exfalso;omega)))
  | refine aI rfl ?_
  | refine aJ rfl ?_
  | refine aE rfl (nN p hs) rfl ?_
  | refine aB rfl ?_ ?_
  | (refine aG rfl ?_;first | refine rb ?_ | refine ri ?_ | refine bV ?_ ?_ | refine cE ?_)
  | refine aD rfl ?_)
  all_goals first
   | (rw [h1 h];rfl)
   | (rw [h2 h];rfl)
   | (rw [h3 (by assumption) h];rfl)
end
section
open Classical
variable {W:Wld}

theorem zV (p:Pk)(hP:PkOk p):FunOk PP W kT eD [sT (textM p)] [ePk p,bo true]:=by
 have hl:=mA p
 have h:=Ca (W:=W) (textM p) (by omega)
 rw [CY hP] at h
 exact h
theorem LH (x:Ix)(hl:x.ms.length≤lim)(p:Pk)(hs:SmP p)(hP:PkOk p):FunOk PP W lW gI [AN x,sT (textM p)] [ePk (if gN p∈x.ms then p else QY),bo (decide (gN p∈x.ms))]:=by
 have hlen:=mA p
 unfold lim at hl
 by_cases hm:gN p∈x.ms
 ·rw [decide_eq_true hm,if_pos hm]
  refine xK (aU ?_)
  (repeat' first
  | (refine run_ite rfl (fun h=>?_) (fun h=>?_)<;>(try simp (disch:=omega) only [zB,eqDs,bM,Nat.reduceAdd,aA] at h)<;>(try (exfalso;omega)))
  | refine aI rfl ?_
  | refine aJ rfl ?_
  | (refine bE rfl (zV p hP) rfl rfl ?_)
  | refine aB rfl ?_ ?_
  | (refine aG rfl ?_;first | refine rb ?_ | refine ri ?_ | refine bV ?_ ?_ | refine cE ?_)
  | refine aD rfl ?_)
  refine aY rfl (fun i:Int=>0≤i∧i≤x.ms.length∧vI i (fun j=>¬ix x.ms j=gN p)) (fun i=>[(8,.val (i64 i)),(2,.val (AN x)),(6,.val (ePk p)),(1,.val (sT (textM p))),(4,.val [.int .i64 0,.int .i64 0,.sl [],.sl []])]) (fun i=>(x.ms.length - i).toNat) 0 ⟨by omega,by omega,cV _⟩ ⟨rfl,rfl,rfl,rfl,rfl,trivial⟩ rfl ?_
  rintro i e ⟨h0,hN,hB⟩
  have hmt:(ix x.ms i).name=p.name→(ix x.ms i).ver=p.ver→(ix x.ms i).sum=uC (textM p)→ix x.ms i=gN p:=fun a b c=>FA a b c
  have hno:gN p∈x.ms→¬vI x.ms.length (fun j=>¬ix x.ms j=gN p):=fun h hb=>by
   obtain ⟨j,j0,j1,e⟩:=rS h
   exact hb j j0 j1 e
  have hnm:∀ {q:Mt},q=gN p→q.name=p.name∧q.ver=p.ver∧q.sum=uC (textM p):=fun h=>by rw [h];exact ⟨rfl,rfl,rfl⟩
  (repeat' first
  | (refine run_ite rfl (fun h=>?_) (fun h=>?_)<;>(try simp (disch:=omega) only [zB,eqDs,bM,Nat.reduceAdd,aA] at h)<;>(try (exfalso;omega)))
  | refine aI rfl ?_
  | refine aJ rfl ?_
  | refine aE rfl (xT (textM p) (by omega)) rfl ?_
  | (refine aS rfl (Exists.intro (i+1) ⟨by omega,⟨by omega,by omega,cW hB ?_⟩,aX (aA _ (by omega)),rfl,rfl,rfl,rfl,trivial⟩))
  | refine aB rfl ?_ ?_
  | (refine aG rfl ?_;first | refine rb ?_ | refine ri ?_ | refine bV ?_ ?_ | refine cE ?_)
  | refine aD rfl ?_)
  all_goals first
   | rfl
   | exact fun h'=>h (hnm h').2.2
   | exact fun h'=>h (hnm h').2.1
   | exact fun h'=>h (hnm h').1
   | exact absurd (hmt (by assumption) (by assumption) h) (fun h'=>hm (h'▸mJ h0 (by omega)))
   | exact absurd hm (fun h'=>hno h' (gT hB (by omega)))
 ·rw [decide_eq_false hm,if_neg hm]
  refine xK (aU ?_)
  (repeat' first
  | (refine run_ite rfl (fun h=>?_) (fun h=>?_)<;>(try simp (disch:=omega) only [zB,eqDs,bM,Nat.reduceAdd,aA] at h)<;>(try (exfalso;omega)))
  | refine aI rfl ?_
  | refine aJ rfl ?_
  | (refine bE rfl (zV p hP) rfl rfl ?_)
  | refine aB rfl ?_ ?_
  | (refine aG rfl ?_;first | refine rb ?_ | refine ri ?_ | refine bV ?_ ?_ | refine cE ?_)
  | refine aD rfl ?_)
  refine aY rfl (fun i:Int=>0≤i∧i≤x.ms.length∧vI i (fun j=>¬ix x.ms j=gN p)) (fun i=>[(8,.val (i64 i)),(2,.val (AN x)),(6,.val (ePk p)),(1,.val (sT (textM p))),(4,.val [.int .i64 0,.int .i64 0,.sl [],.sl []])]) (fun i=>(x.ms.length - i).toNat) 0 ⟨by omega,by omega,cV _⟩ ⟨rfl,rfl,rfl,rfl,rfl,trivial⟩ rfl ?_
  rintro i e ⟨h0,hN,hB⟩
  have hmt:(ix x.ms i).name=p.name→(ix x.ms i).ver=p.ver→(ix x.ms i).sum=uC (textM p)→ix x.ms i=gN p:=fun a b c=>FA a b c
  have hno:gN p∈x.ms→¬vI x.ms.length (fun j=>¬ix x.ms j=gN p):=fun h hb=>by
   obtain ⟨j,j0,j1,e⟩:=rS h
   exact hb j j0 j1 e
  have hnm:∀ {q:Mt},q=gN p→q.name=p.name∧q.ver=p.ver∧q.sum=uC (textM p):=fun h=>by rw [h];exact ⟨rfl,rfl,rfl⟩
  (repeat' first
  | (refine run_ite rfl (fun h=>?_) (fun h=>?_)<;>(try simp (disch:=omega) only [zB,eqDs,bM,Nat.reduceAdd,aA] at h)<;>(try (exfalso;omega)))
  | refine aI rfl ?_
  | refine aJ rfl ?_
  | refine aE rfl (xT (textM p) (by omega)) rfl ?_
  | (refine aS rfl (Exists.intro (i+1) ⟨by omega,⟨by omega,by omega,cW hB ?_⟩,aX (aA _ (by omega)),rfl,rfl,rfl,rfl,trivial⟩))
  | refine aB rfl ?_ ?_
  | (refine aG rfl ?_;first | refine rb ?_ | refine ri ?_ | refine bV ?_ ?_ | refine cE ?_)
  | refine aD rfl ?_)
  all_goals first
   | rfl
   | exact fun h'=>h (hnm h').2.2
   | exact fun h'=>h (hnm h').2.1
   | exact fun h'=>h (hnm h').1
   | exact absurd (hmt (by assumption) (by assumption) h) (fun h'=>hm (h'▸mJ h0 (by omega)))
   | exact absurd hm (fun h'=>hno h' (gT hB (by omega)))
theorem wI (t:Tu)(s:List Pk)(hk:t.r.keys.length≤lim)(hl:t.x.ms.length≤lim)(hs:jI s):FunOk PP W kD dO [Jl t,bN s] [bN (fX t s)]:=by
 refine AJ (aU ?_)
 (repeat' first
  | (refine run_ite rfl (fun h=>?_) (fun h=>?_)<;>(try simp (disch:=omega) only [zB,eqDs,bM,Nat.reduceAdd,aA] at h)<;>(try (exfalso;omega)))
  | refine aI rfl ?_
  | refine aJ rfl ?_
  | refine aE rfl (kW t hk hl) rfl ?_
  | refine aE rfl (kV s hs) rfl ?_
  | refine aB rfl ?_ ?_
  | (refine aG rfl ?_;first | refine rb ?_ | refine ri ?_ | refine bV ?_ ?_ | refine cE ?_)
  | refine aD rfl ?_)
 ·rw [fX,if_neg (fun h'=>h h'.1)]
  rfl
 ·rw [fX,if_neg (fun h'=>h h'.2)]
  rfl
 have hc:Ad t∧jG s:=⟨by assumption,h⟩
 rw [fX,if_pos hc]
 clear h hc
 have hsl:=hs.1
 unfold lim at hsl
 refine aY rfl (fun i:Int=>0≤i∧i≤s.length) (fun i=>[(18,.val (i64 i)),(16,.val (bN s)),(17,.val (i64 (s.map ePk).length)),(5,.val (bN (tE t (s.take i.toNat)))),(2,.val (Jl t))]) (fun i=>(s.length - i).toNat) 0 ⟨by omega,by omega⟩ ⟨rfl,rfl,rfl,jA (by unfold tE;split<;>rfl),rfl,trivial⟩ rfl ?_
 rintro i e ⟨h0,hN⟩
 have hle:(tE t (s.take i.toNat)).length≤i.toNat:=by
  unfold tE
  split
  ·exact Nat.le_trans (List.length_filter_le _ _) (by rw [List.length_take];omega)
  ·simp
 by_cases hi:i<s.length
 ·have hst:=LB (fun p=>decide (gN p∈t.x.ms)) s h0 hi
  have hsm:=nM hs h0 hi
  (repeat' first
  | (refine run_ite rfl (fun h=>?_) (fun h=>?_)<;>(try simp (disch:=omega) only [zB,eqDs,bM,Nat.reduceAdd,aA] at h)<;>(try (exfalso;omega)))
  | refine aI rfl ?_
  | refine aJ rfl ?_
  | refine lB rfl (Dt (ix s i) hsm) rfl ?_
  | refine lB rfl (HB t.x.ms (gN (ix s i)) hl) rfl ?_
  | refine lB rfl (rT (ix s i) hsm) rfl ?_
  | (refine aS rfl (Exists.intro (i+1) ⟨by omega,⟨by omega,by omega⟩,aX (aA _ (by omega)),rfl,rfl,?_,rfl,trivial⟩))
  | refine aB rfl ?_ ?_
  | (refine aG rfl ?_;first | refine rb ?_ | refine ri ?_ | refine bV ?_ ?_ | refine cE ?_)
  | refine aD rfl ?_)
  ·have h1:t.has=true:=by assumption
   refine jA ?_
   unfold tE
   rw [if_pos h1,if_pos h1,hst,if_pos (decide_eq_true h),List.map_append]
   rfl
  ·have h1:t.has=true:=by assumption
   refine jA ?_
   unfold tE
   rw [if_pos h1,if_pos h1,hst,if_neg (by simp [h]),List.append_nil]
  ·refine jA ?_
   unfold tE
   rw [if_neg (by rw [h];simp),if_neg (by rw [h];simp)]
 ·have ht:s.take i.toNat=s:=List.take_of_length_le (by omega)
  rw [ht] at hle ⊢
  (repeat' first
  | (refine run_ite rfl (fun h=>?_) (fun h=>?_)<;>(try simp (disch:=omega) only [zB,eqDs,bM,Nat.reduceAdd,aA] at h)<;>(try (exfalso;omega)))
  | refine aI rfl ?_
  | refine aJ rfl ?_
  | refine aB rfl ?_ ?_
  | (refine aG rfl ?_;first | refine rb ?_ | refine ri ?_ | refine bV ?_ ?_ | refine cE ?_)
  | refine aD rfl ?_)
  rfl
end
section
open Classical
open Go.RowKit

def vG:Nat:=Nat.max (Nat.max 0 1) 2+1
def vW:Wld where
 G:=vG
 P:=fun w=>vG≤w.heap.size∧(∃ m,w.cell? ⟨0,0,none⟩=some (.int .i64 m))∧(∃ v,w.cell? ⟨1,0,none⟩=some v∧Ru v)∧∃ v,w.cell? ⟨2,0,none⟩=some v∧Ru v
 size:=fun w h=>h.1
 keep:=fun own w w' hk hlow h=>by
  have key:∀ g,g<vG→∀ v,w.cell? ⟨g,0,none⟩=some v→w'.cell? ⟨g,0,none⟩=some v:=fun g hg v hc=>by
   have hn:own g=none:=by
    cases ho:own g with
    | none=>rfl
    | some i=>have:=hlow _ i ho;omega
   have hb:=hk.block g (by have:=h.1;omega) hn
   simp only [World.cell?,hb] at hc ⊢
   exact hc
  obtain ⟨h0,⟨m,hm⟩,⟨v,hv,hv'⟩,u,hu,hu'⟩:=h
  exact ⟨Nat.le_trans h0 hk.size,⟨m,key _ (by decide) _ hm⟩,⟨v,key _ (by decide) _ hv,hv'⟩,u,key _ (by decide) _ hu,hu'⟩
theorem Si {w:World}(h0:∃ m,w.cell? ⟨0,0,none⟩=some (.int .i64 m))(h1:∃ v,w.cell? ⟨1,0,none⟩=some v∧Ru v)(h2:∃ v,w.cell? ⟨2,0,none⟩=some v∧Ru v):vW.P w:=by
 refine ⟨?_,h0,h1,h2⟩
 obtain ⟨_,a0⟩:=h0
 obtain ⟨_,a1,_⟩:=h1
 obtain ⟨_,a2,_⟩:=h2
 exact Nat.succ_le_of_lt (Nat.max_lt.2 ⟨Nat.max_lt.2 ⟨eJ a0,eJ a1⟩,eJ a2⟩)
theorem LI {w w':World}{own:Own}{cx:Cx}(hw:WOk w own cx own w)(hb:Below w.heap.size w w'):WOk w own cx (fun _=>none) w':=
 ⟨⟨hb.os,hb.tape,hb.output,hb.size,fun g hg _=>hb.block g hg,fun g o hg _=>by simp only [World.cell?,hb.block g hg],fun g cur T h=>⟨cur,by rw [hb.block g (iW h)];exact h,rfl⟩⟩,fun g i h=>(by cases h),hw.n,hw.s1,hw.s2,fun g o _ hc=>(by obtain ⟨i,b,h1,_⟩:=hc;cases h1),fun g g' i j h=>(by cases h)⟩
theorem xV {w w':World}{own:Own}{cx:Cx}{sig:Sig}{vals rv:List Value}{outs:List (List D)}(hw:WOk w own cx own w)(hb:Below w.heap.size w w')(hbx:boxPs sig.ps 0=[])(hio:BJ sig=none)
  (hlo:outs.length=sig.rs.length)(hlr:rv.length=sig.rs.length)(h:∀ (k:Nat) (p:PSh),sig.rs[k]? =some p→∃ d v c,outs[k]? =some [d]∧rv[k]? =some v∧p= .v false [c]∧aL w' cx (fun _=>none) k 0 c d v):∃ u own',Ending.returned (retV rv)= .returned u∧WOk w own cx own' w'∧lI w' cx own' sig outs vals u:=by
 refine ⟨retV rv,fun _=>none,rfl,LI hw hb,?_⟩
 unfold lI
 rw [hio]
 refine ⟨by rw [hlo,hbx];rfl,rv,hlr,rfl,fun k p hp=>?_,fun i b hb=>by rw [hbx] at hb;simp at hb⟩
 obtain ⟨d,v,c,h1,h2,rfl,h3⟩:=h k p hp
 refine ⟨[v],?_,fun _=>rfl,?_,?_,fun i c' dd u hc hd hv=>?_⟩
 ·show (rv++_).getD k undef=v
  rw [hbx]
  simp [List.getD,h2]
 ·show [c].length=(outs.getD k []).length
  simp [List.getD,h1]
 ·show [v].length=(outs.getD k []).length
  simp [List.getD,h1]
 ·cases i with
  | succ i=>simp at hc
  | zero=>
   have e:envL outs k=[d]:=by simp [envL,List.getD,h1]
   rw [e] at hd
   simp only [List.getElem?_cons_zero,Option.some.injEq] at hc hd hv
   subst hc;subst hd;subst hv
   exact h3
theorem Sj {v:ByteArray}:Cell1 (.string v):=⟨fun c h=>(by cases h),fun c h=>(by cases h)⟩
theorem wJ {w:World}{cx:Cx}{own:Own}{ins:List (List D)}{vals:List Value}{k:Nat}{s:ByteArray}{v:Value}(h:SlotOk w cx own (envL ins) (tvL vals) k (.v false [.s]))(hi:ins[k]? =some [.str s])(hv:vals[k]? =some v):v= .string s:=by
 obtain ⟨vs,e0,l0,a0⟩:=h
 match vs,l0 rfl with
 | [u],_=>
  have e1:v=u:=by
   have:tvL vals k=v:=by simp [tvL,List.getD,hv]
   rw [←this];exact e0
  subst e1
  have ei:envL ins k=[.str s]:=by simp [envL,List.getD,hi]
  obtain ⟨_,hsc⟩:=a0.2.2 0 .s (.str s) v rfl (by rw [ei];rfl) rfl
  have hsc:Scal (.str s) v:=hsc
  cases hsc
  rfl
theorem Nu (l:List UInt8)(hl:l.length≤2000000):FunOk PP vW pY hH [sT l,sT [32]] [Sb (cJ l)]:=by
 refine ⟨⟨Tryz.f95,Tryz.func95,by kernel_rfl,by kernel_rfl⟩,fun w own cx vals hP hw hlow hvl hil hinv=>?_⟩
 match vals,hvl with
 | [v0,v1],_=>
  have h0:=wJ (hinv (0,.v false [.s]) (List.mem_cons_self ..)) rfl rfl
  have h1:=wJ (hinv (1,.v false [.s]) (List.mem_cons_of_mem _ (List.mem_cons_self ..))) rfl rfl
  subst h0;subst h1
  obtain ⟨_,⟨m,hm⟩,_⟩:=hP
  refine (Tryz.strings_Split (bA l) (bA [32]) m w (by rw [bA_size];omega) hm (by decide)).mono ?_
  rintro e w' ⟨rfl,rfl⟩
  have hsp:Lib.splitB (bA [32]) 0 (Lib.countB (bA l) (bA [32])) (bA l)=(cJ l).map bA:=Is l
  have hcn:Lib.countB (bA l) (bA [32])+1=(cJ l).length:=by
   have:=Lib.splitB_all (bA [32]) (by decide) 0 _ (bA l) rfl
   rw [hsp,List.length_map] at this
   omega
  rw [hsp,hcn]
  have hnew:(w.alloc (.cells ((((cJ l).map bA).map Value.string).toArray) 9)).heap[w.heap.size]? =some (.cells ((((cJ l).map bA).map Value.string).toArray) 9 (0,0)):=heap_alloc_new w _
  have hN:cx.N w.heap.size:=(hw.n _).2 (.inl (Nat.le_refl _))
  refine xV (rv:=[.slice (some ⟨w.heap.size,0,none⟩) (cJ l).length (cJ l).length]) hw (eH w _) rfl rfl rfl rfl (fun k p hp=>?_)
  cases k with
  | succ k=>simp at hp
  | zero=>
   have hp:PSh.v false [.r]=p:=by simpa using hp
   subst hp
   refine ⟨.sl ((cJ l).map eW),_,.r,rfl,rfl,rfl,⟨fun c h=>(by cases h),fun c h=>(by cases h)⟩,?_⟩
   have hr:=Rep.sl (w:=w.alloc (.cells ((((cJ l).map bA).map Value.string).toArray) 9)) (S:=RS cx (fun _=>none)) ((cJ l).map eW) w.heap.size 0 1 (cJ l).length (fun i _=> .string (bA (ix (cJ l) i))) (by simp) (fun x hx=>by obtain ⟨y,_,rfl⟩:=List.mem_map.1 hx;rfl)
    (fun i x j d hx hj=>by
     rw [List.getElem?_map,Option.map_eq_some_iff] at hx
     obtain ⟨y,hy,rfl⟩:=hx
     cases j with
     | succ j=>simp at hj
     | zero=>
      have hi:=(List.getElem?_eq_some_iff.1 hy).1
      have hix:ix (cJ l) (i:Int)=y:=by simp [ix,hy]
      simp only [World.cell?,hnew]
      simp [hy,hix])
    (fun i x j d hx hj=>⟨rfl,.inr hN⟩)
    (fun i x j d hx hj=>by
     rw [List.getElem?_map,Option.map_eq_some_iff] at hx
     obtain ⟨y,hy,rfl⟩:=hx
     cases j with
     | succ j=>simp at hj
     | zero=>
      have hix:ix (cJ l) (i:Int)=y:=by simp [ix,hy]
      simp only [List.getElem?_cons_zero,Option.some.injEq] at hj
      subst hj
      rw [hix]
      exact .scal (.str _))
   simp only [List.length_map] at hr
   exact hr
theorem Rh (w0:List UInt8)(a b:List UInt8)(t:Bool)(hl:w0.length≤2000000)(hc:Lib.cut w0 [58]=(a,b,t)):FunOk PP vW tA kF [sT w0,sT [58]] [sT a,sT b,bo t]:=by
 refine ⟨⟨Tryz.f97,Tryz.func97,by kernel_rfl,by kernel_rfl⟩,fun w own cx vals hP hw hlow hvl hil hinv=>?_⟩
 match vals,hvl with
 | [v0,v1],_=>
  have h0:=wJ (hinv (0,.v false [.s]) (List.mem_cons_self ..)) rfl rfl
  have h1:=wJ (hinv (1,.v false [.s]) (List.mem_cons_of_mem _ (List.mem_cons_self ..))) rfl rfl
  subst h0;subst h1
  obtain ⟨_,⟨m,hm⟩,_⟩:=hP
  have e:Lib.cut (bA w0).data.toList (bA [58]).data.toList=(a,b,t):=hc
  refine (Tryz.strings_Cut (bA w0) (bA [58]) m w (by rw [bA_size];omega) hm).mono ?_
  rw [e]
  rintro en w' ⟨rfl,n,rfl⟩
  refine xV (rv:=[.string (bA a),.string (bA b),.bool t]) hw ⟨rfl,rfl,rfl,Nat.le_refl _,fun _ _=>rfl⟩ rfl rfl rfl rfl (fun k p hp=>?_)
  match k,hp with
  | 0,hp=>
   have hp:PSh.v false [.s]=p:=by simpa using hp
   subst hp
   exact ⟨_,_,.s,rfl,rfl,rfl,Sj,.str _⟩
  | 1,hp=>
   have hp:PSh.v false [.s]=p:=by simpa using hp
   subst hp
   exact ⟨_,_,.s,rfl,rfl,rfl,Sj,.str _⟩
  | 2,hp=>
   have hp:PSh.v false [.s]=p:=by simpa using hp
   subst hp
   exact ⟨_,_,.s,rfl,rfl,rfl,⟨fun c h=>(by cases h),fun c h=>(by cases h)⟩,.bool _⟩
  | k+3,hp=>simp at hp
theorem FG (l:List UInt8)(hl:l.length≤2000000):FunOk PP vW jE dF [sT l] [i64 (Nl l),[.bad]]:=by
 refine ⟨⟨Tryz.f98,Tryz.func98,by kernel_rfl,by kernel_rfl⟩,fun w own cx vals hP hw hlow hvl hil hinv=>?_⟩
 match vals,hvl with
 | [v0],_=>
  have h0:=wJ (hinv (0,.v false [.s]) (List.mem_cons_self ..)) rfl rfl
  subst h0
  obtain ⟨_,_,⟨ev,hv,hev⟩,er,hr,her⟩:=hP
  have hd:(bA l).data.toList=l:=by simp [bA]
  have fin:∀ (n:Int) (v:Value) (w':World),Below w.heap.size w w'→Cell1 v→∃ u own',Ending.returned (retV [.int .i64 n,v])= .returned u∧WOk w own cx own' w'∧lI w' cx own' dF [i64 n,[.bad]] [Value.string (bA l)] u:=fun n v w' hb hc=>by
   refine xV (rv:=[.int .i64 n,v]) hw hb rfl rfl rfl rfl (fun k p hp=>?_)
   match k,hp with
   | 0,hp=>
    have hp:PSh.v false [.s]=p:=by simpa using hp
    subst hp
    exact ⟨_,_,.s,rfl,rfl,rfl,⟨fun c h=>(by cases h),fun c h=>(by cases h)⟩,.int _ _⟩
   | 1,hp=>
    have hp:PSh.v false [.x]=p:=by simpa using hp
    subst hp
    exact ⟨.bad,_,.x,rfl,rfl,rfl,hc,trivial⟩
   | k+2,hp=>simp at hp
  unfold Nl
  cases hc:Lib.atoiAll l with
  | ok n=>
   refine (Tryz.strconv_Atoi_ok (bA l) (by rw [bA_size];omega) n (by rw [hd];exact hc) w).mono ?_
   rintro en w' ⟨rfl,ht⟩
   refine fin _ _ _ ?_ ⟨fun c h=>(by cases h),fun c h=>(by cases h)⟩
   rcases ht with rfl | ⟨t,rfl⟩
   ·exact Below.refl _ _
   ·exact Lib.bytesWorld_below _ _ _
  | «syntax»=>
   refine (Tryz.strconv_Atoi_syntax (bA l) (by rw [bA_size];omega) (by rw [hd];exact hc) ev w hv hev).mono ?_
   rintro en w' ⟨N,rfl,_,_,hb⟩
   exact fin _ _ _ hb ⟨fun c h=>(by cases h),fun c h=>(by cases h)⟩
  | range=>
   refine (Tryz.strconv_Atoi_range (bA l) (by rw [bA_size];omega) (by rw [hd];exact hc) er w hr her).mono ?_
   rintro en w' ⟨N,rfl,_,_,hb⟩
   rw [hd]
   exact fin _ _ _ hb ⟨fun c h=>(by cases h),fun c h=>(by cases h)⟩
end
section
open Classical
variable {W:Wld}

noncomputable def mR (x:Ix)(l:List UInt8):Option Pk:=
 match wH l with
 | some p=>if gN p∈x.ms then some p else none
 | none=>none
theorem Dy {x:Ix}{l:List UInt8}(h:wH l=none):mR x l=none:=by unfold mR;rw [h]
theorem Ju {x:Ix}{l:List UInt8}{p:Pk}(h:wH l=some p)(hm:gN p∈x.ms):mR x l=some p:=by unfold mR;rw [h];exact if_pos hm
theorem HF {x:Ix}{l:List UInt8}{p:Pk}(h:wH l=some p)(hm:¬gN p∈x.ms):mR x l=none:=by unfold mR;rw [h];exact if_neg hm
theorem oW {x:Ix}{l:List UInt8}{p:Pk}(h:mR x l=some p):wH l=some p∧gN p∈x.ms:=by
 unfold mR at h
 cases hr:wH l with
 | none=>rw [hr] at h;cases h
 | some q=>
  rw [hr] at h
  dsimp only at h
  split at h
  ·cases h;exact ⟨rfl,by assumption⟩
  ·cases h
theorem Sk {p:Pk}(h:PkOk p):SmP p:=by
 have h1:=h.2.2.1.2
 have h2:=h.2.2.2.2
 exact ⟨by unfold lim;omega,by unfold lim;omega⟩
theorem xW {l:List UInt8}{p:Pk}(h:wH l=some p):PkOk p∧SmP p∧textM p=l:=⟨(CZ h).1,Sk (CZ h).1,(CZ h).2⟩
theorem Nv (x:Ix)(hl:x.ms.length≤lim)(l:List UInt8)(h6:l.length≤2000000):FunOk PP W lW gI [AN x,sT l] [ePk (Pt (mR x l)),bo (mR x l).isSome]:=by
 cases hr:wH l with
 | none=>
  rw [Dy hr]
  have hg:FunOk PP W kT eD [sT l] [ePk QY,bo false]:=by
   have:=Ca (W:=W) l h6
   rw [hr] at this
   exact this
  refine xK (aU ?_)
  (repeat' first
  | (refine run_ite rfl (fun h=>?_) (fun h=>?_)<;>(try simp (disch:=omega) only [zB,eqDs,bM,Nat.reduceAdd,aA] at h)<;>(try (exfalso;omega)))
  | refine aI rfl ?_
  | refine aJ rfl ?_
  | (refine bE rfl hg rfl rfl ?_)
  | refine aB rfl ?_ ?_
  | (refine aG rfl ?_;first | refine rb ?_ | refine ri ?_ | refine bV ?_ ?_ | refine cE ?_)
  | refine aD rfl ?_)
  all_goals rfl
 | some p=>
  obtain ⟨hP,hs,rfl⟩:=xW hr
  have h:=LH (W:=W) x hl p hs hP
  by_cases hm:gN p∈x.ms
  ·rw [Ju hr hm]
   rw [if_pos hm,decide_eq_true hm] at h
   exact h
  ·rw [HF hr hm]
   rw [if_neg hm,decide_eq_false hm] at h
   exact h

noncomputable def Cj (t:Tu)(s:List Pk)(l:List UInt8):List Pk×Bool:=
 match (if t.has=true then mR t.x l else none) with
 | some p=>if cN s p then (s,false) else (eQ s p,true)
 | none=>(s,false)
noncomputable def kX (t:Tu)(s:List Pk)(l:List UInt8):List Pk×Bool:=if Ad t∧jG s then Cj t s l else ([],false)
theorem nP {t:Tu}{s:List Pk}{l:List UInt8}(h:t.has=true→mR t.x l=none):Cj t s l=(s,false):=by
 have:(if t.has=true then mR t.x l else none)=none:=by split;exact h (by assumption);rfl
 unfold Cj
 rw [this]
theorem pW {t:Tu}{s:List Pk}{l:List UInt8}{p:Pk}(h1:t.has=true)(h2:mR t.x l=some p)(h3:cN s p):Cj t s l=(s,false):=by
 unfold Cj
 rw [if_pos h1,h2]
 exact if_pos h3
theorem rW {t:Tu}{s:List Pk}{l:List UInt8}{p:Pk}(h1:t.has=true)(h2:mR t.x l=some p)(h3:¬cN s p):Cj t s l=(eQ s p,true):=by
 unfold Cj
 rw [if_pos h1,h2]
 exact if_neg h3
theorem HG {s:List Pk}{p:Pk}:0≤oS (Pd p.name p.ver) s s.length 0↔cN s p:=Gu (Pd p.name p.ver) s
theorem LJ (t:Tu)(s:List Pk)(hl:t.x.ms.length≤lim)(hs:jI s)(h1:s.length≤2000000)(l:List UInt8)(h6:l.length≤2000000):FunOk PP W tS jQ [Jl t,bN s,sT l] [bN (Cj t s l).1,bo (Cj t s l).2]:=by
 refine IE (aU ?_)
 have hg:=Nv (W:=W) t.x hl l h6
 by_cases ht:t.has=true
 ·cases hh:mR t.x l with
  | none=>
   rw [nP fun _=>hh]
   have hg:FunOk PP W lW gI [AN t.x,sT l] [ePk QY,bo false]:=by rw [hh] at hg;exact hg
   (repeat' first
  | (refine run_ite rfl (fun h=>?_) (fun h=>?_)<;>(try simp (disch:=omega) only [zB,eqDs,bM,Nat.reduceAdd,aA] at h)<;>(try (exfalso;omega)))
  | refine aI rfl ?_
  | refine aJ rfl ?_
  | (refine bE rfl hg rfl rfl ?_)
  | refine aB rfl ?_ ?_
  | (refine aG rfl ?_;first | refine rb ?_ | refine ri ?_ | refine bV ?_ ?_ | refine cE ?_)
  | refine aD rfl ?_)
   all_goals first
    | rfl
    | exact absurd (ht.symm.trans h) (by decide)
  | some p=>
   have hg:FunOk PP W lW gI [AN t.x,sT l] [ePk p,bo true]:=by rw [hh] at hg;exact hg
   have hp:=(xW (oW hh).1).2.1
   by_cases h3:cN s p
   ·rw [pW ht hh h3]
    have:=HG.2 h3
    (repeat' first
  | (refine run_ite rfl (fun h=>?_) (fun h=>?_)<;>(try simp (disch:=omega) only [zB,eqDs,bM,Nat.reduceAdd,aA] at h)<;>(try (exfalso;omega)))
  | refine aI rfl ?_
  | refine aJ rfl ?_
  | refine aE rfl (Jn s hs.1 p.name p.ver) rfl ?_
  | (refine bE rfl hg rfl rfl ?_)
  | refine aB rfl ?_ ?_
  | (refine aG rfl ?_;first | refine rb ?_ | refine ri ?_ | refine bV ?_ ?_ | refine cE ?_)
  | refine aD rfl ?_)
    all_goals first
     | rfl
     | exact absurd (ht.symm.trans h) (by decide)
   ·rw [rW ht hh h3]
    have:=(not_congr HG).2 h3
    (repeat' first
  | (refine run_ite rfl (fun h=>?_) (fun h=>?_)<;>(try simp (disch:=omega) only [zB,eqDs,bM,Nat.reduceAdd,aA] at h)<;>(try (exfalso;omega)))
  | refine aI rfl ?_
  | refine aJ rfl ?_
  | refine aE rfl (Jn s hs.1 p.name p.ver) rfl ?_
  | refine aE rfl (CM s hs h1 p hp) rfl ?_
  | (refine bE rfl hg rfl rfl ?_)
  | refine aB rfl ?_ ?_
  | (refine aG rfl ?_;first | refine rb ?_ | refine ri ?_ | refine bV ?_ ?_ | refine cE ?_)
  | refine aD rfl ?_)
    all_goals first
     | rfl
     | exact absurd (ht.symm.trans h) (by decide)
 ·rw [nP fun h=>absurd h ht]
  (repeat' first
  | (refine run_ite rfl (fun h=>?_) (fun h=>?_)<;>(try simp (disch:=omega) only [zB,eqDs,bM,Nat.reduceAdd,aA] at h)<;>(try (exfalso;omega)))
  | refine aI rfl ?_
  | refine aJ rfl ?_
  | refine aB rfl ?_ ?_
  | (refine aG rfl ?_;first | refine rb ?_ | refine ri ?_ | refine bV ?_ ?_ | refine cE ?_)
  | refine aD rfl ?_)
  all_goals first
   | rfl
   | exact absurd h ht
theorem FH (t:Tu)(s:List Pk)(hk:t.r.keys.length≤lim)(hl:t.x.ms.length≤lim)(hs:jI s)(h1:s.length≤2000000)(l:List UInt8)(h6:l.length≤2000000):FunOk PP W pN gJ [Jl t,bN s,sT l] [bN (kX t s l).1,bo (kX t s l).2]:=by
 refine El (aU ?_)
 by_cases hc:Ad t∧jG s
 ·rw [kX,if_pos hc]
  (repeat' first
  | (refine run_ite rfl (fun h=>?_) (fun h=>?_)<;>(try simp (disch:=omega) only [zB,eqDs,bM,Nat.reduceAdd,aA] at h)<;>(try (exfalso;omega)))
  | refine aI rfl ?_
  | refine aJ rfl ?_
  | refine aE rfl (zU t hk hl) rfl ?_
  | refine aE rfl (zO s hs) rfl ?_
  | refine aE rfl (Ie s hs) rfl ?_
  | (refine bE rfl (LJ t s hl hs h1 l h6) rfl rfl ?_)
  | refine aB rfl ?_ ?_
  | (refine aG rfl ?_;first | refine rb ?_ | refine ri ?_ | refine bV ?_ ?_ | refine cE ?_)
  | refine aD rfl ?_)
  all_goals first
   | rfl
   | exact absurd hc.1 h
   | exact absurd hc.2 h
 ·rw [kX,if_neg hc]
  (repeat' first
  | (refine run_ite rfl (fun h=>?_) (fun h=>?_)<;>(try simp (disch:=omega) only [zB,eqDs,bM,Nat.reduceAdd,aA] at h)<;>(try (exfalso;omega)))
  | refine aI rfl ?_
  | refine aJ rfl ?_
  | refine aE rfl (zU t hk hl) rfl ?_
  | refine aE rfl (zO s hs) rfl ?_
  | refine aB rfl ?_ ?_
  | (refine aG rfl ?_;first | refine rb ?_ | refine ri ?_ | refine bV ?_ ?_ | refine cE ?_)
  | refine aD rfl ?_)
  all_goals first
   | rfl
   | exact absurd ⟨by assumption,h⟩ hc

/-! The program. -/
theorem Nw (l:List UInt8):(bA l).extract (Int.toNat 1) ((bA l).size:Int).toNat=bA (l.drop 1):=by
 apply ByteArray.ext
 rw [ByteArray.data_extract,bA_size]
 have:l.tail.take (l.length - 1)=l.tail:=List.take_of_length_le (by simp)
 simp [bA,this]
theorem Pv (w:List UInt8):(Lib.cut w [58]).1.length≤w.length∧(Lib.cut w [58]).2.1.length≤w.length:=by
 unfold Lib.cut
 split
 ·simp;omega
 ·simp
theorem Nx {l:List UInt8}(h:(bA l).toList=(⟨#[]⟩:ByteArray).toList):l=[]:=(uF (a:=l) (b:=[])).1 h
theorem zW (l:List UInt8)(h6:l.length≤2000000):FunOk PP vW lP eN [sT l] [i64 (HL l).a,i64 (HL l).b]:=by
 refine Ep (aU ?_)
 have hsz:=bA_size l
 have hne:¬(bA l).toList=(⟨#[]⟩:ByteArray).toList→l≠[]∧1≤l.length:=fun h=>by
  have:l≠[]:=fun e=>h (by rw [e];rfl)
  exact ⟨this,List.length_pos_iff.2 this⟩
 have hb0:1≤l.length→QU (bA l) 0=((ix l 0).toNat:Int):=fun h=>Ez l 0 (by show 0<_;omega)
 (repeat' first
  | (refine run_ite rfl (fun h=>?_) (fun h=>?_)<;>(try simp (disch:=omega) only [zB,eqDs,bM,Nat.reduceAdd,aA] at h)<;>(try (exfalso;omega)))
  | refine aI rfl ?_
  | refine aJ rfl ?_
  | (refine bE rfl (FG (l.drop 1) (by rw [List.length_drop];omega)) (Iq (Nw l)) rfl ?_)
  | refine aB rfl ?_ ?_
  | (refine aG rfl ?_;first | refine rb ?_ | refine ri ?_ | refine bV ?_ ?_ | refine cE ?_)
  | refine aD rfl ?_)
 ·rw [HL,if_pos (Nx h)]
 ·rw [HL,if_pos (Nx h)]
 ·have:=(hne h).2;omega
 ·have:=(hne h).2;omega
 ·rw [HL,if_neg (hne h).1]
  exact aX (Nt l 0 _ (hb0 (hne h).2))
 ·rw [HL,if_neg (hne h).1]
theorem HH (l:List UInt8)(h6:l.length≤2000000):FunOk PP vW kR eG [sT l] [ePk (Pt (wH l)),bo (wH l).isSome]:=by
 refine Gk (aU ?_)
 have hsz:=bA_size l
 by_cases h30:30<l.length
 ·rw [HE h30]
  (repeat' first
  | (refine run_ite rfl (fun h=>?_) (fun h=>?_)<;>(try simp (disch:=omega) only [zB,eqDs,bM,Nat.reduceAdd,aA] at h)<;>(try (exfalso;omega)))
  | refine aI rfl ?_
  | refine aJ rfl ?_
  | refine aB rfl ?_ ?_
  | (refine aG rfl ?_;first | refine rb ?_ | refine ri ?_ | refine bV ?_ ?_ | refine cE ?_)
  | refine aD rfl ?_)
  all_goals rfl
 have hc:=Nu l h6
 have hws:=wD l [[]] (by simp)
 have hww:=Ir l [[]] 0 (fun w hw=>by simp at hw;simp [hw])
 simp only [List.length_cons,List.length_nil] at hws
 have hcd:l.foldl fY [[]]=cJ l:=rfl
 rw [hcd] at hws hww
 have hT:=Se l
 generalize cJ l=ws at hc hws hww hT
 have hw0:(ix ws 0).length≤2000000:=by have:=hww _ (mJ (xs:=ws) (i:=0) (by omega) (by omega));omega
 (repeat' first
  | (refine run_ite rfl (fun h=>?_) (fun h=>?_)<;>(try simp (disch:=omega) only [zB,eqDs,bM,Nat.reduceAdd,aA] at h)<;>(try (exfalso;omega)))
  | refine aI rfl ?_
  | refine aJ rfl ?_
  | refine aE rfl (hc) rfl ?_
  | (refine bE rfl (zW (ix ws 0) hw0) (Iq (Pm ws 0 (by show 0<_;omega))) rfl ?_)
  | refine aB rfl ?_ ?_
  | (refine aG rfl ?_;first | refine rb ?_ | refine ri ?_ | refine bV ?_ ?_ | refine cE ?_)
  | refine aD rfl ?_)
 have hdr:(((ws.map eW).take ((ws.map eW).length:Int).toNat).drop (Int.toNat 1))=(ws.drop 1).map eW:=by
  rw [List.take_of_length_le (by omega),List.map_drop]
  rfl
 have hdl:((ws.drop 1).map eW).length=ws.length - 1:=by rw [List.length_map,List.length_drop]
 have hdn:(ws.drop 1).length=ws.length - 1:=List.length_drop
 have hdw:∀ w∈ws.drop 1,w.length≤2000000:=fun w hw=>by have:=hww w (List.mem_of_mem_drop hw);omega
 have hst:=fun i h=>Nm ws (i:=i) h
 have hrl:=fun n=>Jt ws n
 have hr0:Dw ws 0=⟨(HL (ix ws 0)).a,(HL (ix ws 0)).b,[],[]⟩:=rfl
 rw [←hdn] at hT
 have hn1:(ws.drop 1).length≤2000001:=by omega
 generalize Dw ws=R at hT hst hrl hr0
 generalize ws.drop 1=vs at hdr hdl hdw hst hT hn1
 refine aY rfl (fun i:Int=>0≤i∧i≤vs.length) (fun i=>[(35,.val (i64 i)),(33,.val (Sb vs)),(34,.val (i64 vs.length)),(5,.val (ePk (R i.toNat))),(0,.val (sT l)),(2,.val [.int .i64 0,.int .i64 0,.sl [],.sl []])]) (fun i=>(vs.length - i).toNat) 0 ⟨by omega,by omega⟩ ⟨rfl,jA hdr,aX (by rw [hdr,List.length_map]),by show _=ePk (R 0);rw [hr0];rfl,rfl,rfl,trivial⟩ rfl ?_
 rintro i e ⟨h0,hN⟩
 have hri:=hrl i.toNat
 by_cases hi:i<vs.length
 ·have hcs:cS (vs.map eW) i 0=bA (ix vs i):=Pm _ i (by omega)
  have hlw:(ix vs i).length≤2000000:=hdw _ (mJ h0 hi)
  have hst:=hst i h0
  generalize R i.toNat=p at hri hst
  obtain ⟨a,b,t,hcut⟩:∃ a b t,Lib.cut (ix vs i) [58]=(a,b,t):=⟨_,_,_,rfl⟩
  have hla:a.length≤2000000∧b.length≤2000000:=by
   have h1:=Pv (ix vs i)
   rw [hcut] at h1
   exact ⟨Nat.le_trans h1.1 hlw,Nat.le_trans h1.2 hlw⟩
  have hk:=Rh (ix vs i) a b t hlw hcut
  have hst':t=true→R (i+1).toNat=⟨p.name,p.ver,p.files++[⟨Nl a,Nl b⟩],p.deps⟩:=fun h=>by rw [hst,CX,hcut];exact if_pos h
  have hst2:¬t=true→R (i+1).toNat=⟨p.name,p.ver,p.files,p.deps++[HL (ix vs i)]⟩:=fun h=>by rw [hst,CX,hcut];exact if_neg h
  (repeat' first
  | (refine run_ite rfl (fun h=>?_) (fun h=>?_)<;>(try simp (disch:=omega) only [zB,eqDs,bM,Nat.reduceAdd,aA] at h)<;>(try (exfalso;omega)))
  | refine aI rfl ?_
  | refine aJ rfl ?_
  | (refine aS rfl (Exists.intro (i+1) ⟨by omega,⟨by omega,by omega⟩,aX (aA _ (by omega)),rfl,rfl,?_,rfl,rfl,trivial⟩))
  | (refine bE rfl hk (bV (Jm hcs) rfl) rfl ?_)
  | (refine bE rfl (FG a hla.1) rfl rfl ?_)
  | (refine bE rfl (FG b hla.2) rfl rfl ?_)
  | (refine bE rfl (zW (ix vs i) hlw) (Iq hcs) rfl ?_)
  | refine aB rfl ?_ ?_
  | (refine aG rfl ?_;first | refine rb ?_ | refine ri ?_ | refine bV ?_ ?_ | refine cE ?_)
  | refine aD rfl ?_)
  ·rw [hst' h]
   exact Nq rfl rfl
  ·rw [hst2 (by rw [h];decide)]
   exact Nr rfl rfl
 ·have hi':i=vs.length:=by omega
  subst hi'
  have hr:R (vs.length:Int).toNat=R vs.length:=rfl
  rw [hr] at hri ⊢
  generalize R vs.length=p at hri hT
  have hs:SmP p:=⟨by unfold lim;omega,by unfold lim;omega⟩
  have h1:¬(bA (textM p)).toList=(bA l).toList→wH l=none:=fun h=>by rw [hT,if_neg (fun h'=>h (uF.2 h'.2))]
  have h2:¬PkOk p→wH l=none:=fun h=>by rw [hT,if_neg (fun h'=>h h'.1)]
  have h3:(bA (textM p)).toList=(bA l).toList→PkOk p→wH l=some p:=fun h h'=>by rw [hT,if_pos ⟨h',uF.1 h⟩]
  (repeat' first
  | (refine run_ite rfl (fun h=>?_) (fun h=>?_)<;>(try simp (disch:=omega) only [zB,eqDs,bM,Nat.reduceAdd,aA] at h)<;>(try (exfalso;omega)))
  | refine aI rfl ?_
  | refine aJ rfl ?_
  | refine aE rfl (xQ p hs) rfl ?_
  | refine aE rfl (zR p hs) rfl ?_
  | refine aB rfl ?_ ?_
  | (refine aG rfl ?_;first | refine rb ?_ | refine ri ?_ | refine bV ?_ ?_ | refine cE ?_)
  | refine aD rfl ?_)
  all_goals first
   | (rw [h2 (by assumption)];rfl)
   | (rw [h1 (by assumption)];rfl)
   | (rw [h3 (by assumption) (by assumption)];rfl)
noncomputable def Cl (x:Ix)(l:List UInt8):Option Pk:=if Im x then mR x l else none
theorem FI (x:Ix)(hl:x.ms.length≤lim)(l:List UInt8)(h6:l.length≤2000000):FunOk PP vW jC dS [AN x,sT l] [ePk (Pt (Cl x l)),bo (Cl x l).isSome]:=by
 refine Ej (aU ?_)
 have hg:=HH l h6
 cases hr:wH l with
 | none=>
  have hn:Cl x l=none:=by unfold Cl;split;exact Dy hr;rfl
  rw [hn]
  have hg:FunOk PP vW kR eG [sT l] [ePk QY,bo false]:=by rw [hr] at hg;exact hg
  (repeat' first
  | (refine run_ite rfl (fun h=>?_) (fun h=>?_)<;>(try simp (disch:=omega) only [zB,eqDs,bM,Nat.reduceAdd,aA] at h)<;>(try (exfalso;omega)))
  | refine aI rfl ?_
  | refine aJ rfl ?_
  | (refine bE rfl hg rfl rfl ?_)
  | refine aB rfl ?_ ?_
  | (refine aG rfl ?_;first | refine rb ?_ | refine ri ?_ | refine bV ?_ ?_ | refine cE ?_)
  | refine aD rfl ?_)
  all_goals rfl
 | some p=>
  obtain ⟨hP,hs,ht⟩:=xW hr
  have hg:FunOk PP vW kR eG [sT l] [ePk p,bo true]:=by rw [hr] at hg;exact hg
  have h1:¬Im x→Cl x l=none:=fun h=>if_neg h
  have h2:¬gN p∈x.ms→Cl x l=none:=fun h=>by unfold Cl;split;exact HF hr h;rfl
  have h3:Im x→gN p∈x.ms→Cl x l=some p:=fun h h'=>by rw [Cl,if_pos h];exact Ju hr h'
  (repeat' first
  | (refine run_ite rfl (fun h=>?_) (fun h=>?_)<;>(try simp (disch:=omega) only [zB,eqDs,bM,Nat.reduceAdd,aA] at h)<;>(try (exfalso;omega)))
  | refine aI rfl ?_
  | refine aJ rfl ?_
  | refine aE rfl (zT x hl) rfl ?_
  | refine aE rfl (Dt p hs) rfl ?_
  | refine aE rfl (HB x.ms (gN p) hl) rfl ?_
  | (refine bE rfl hg rfl rfl ?_)
  | refine aB rfl ?_ ?_
  | (refine aG rfl ?_;first | refine rb ?_ | refine ri ?_ | refine bV ?_ ?_ | refine cE ?_)
  | refine aD rfl ?_)
  all_goals first
   | (rw [h1 (by assumption)];rfl)
   | (rw [h2 (by assumption)];rfl)
   | (rw [h3 (by assumption) (by assumption)];rfl)
theorem wK {i j:Int}(h0:0≤i)(h1:i<j)(h2:j≤1073741824):IntKind.i64.wrap ((IntKind.u64.wrap (IntKind.i64.wrap (i+j))).fdiv (2^min (Int.toNat 1) IntKind.u64.bits))=(i+j) / 2:=by
 have e1:IntKind.u64.wrap (i+j)=i+j:=by
  show (i+j) % (2^64:Int)=i+j
  omega
 have e2:(2:Int)^min (Int.toNat 1) IntKind.u64.bits=2:=by decide
 rw [aA (i+j) (by omega),e1,e2,Int.fdiv_eq_ediv_of_nonneg _ (by decide),aA _ (by omega)]
theorem Jv {q p:Pk}:(if oR q.name p.name=0 then oR q.ver p.ver else oR q.name p.name)<0↔bH q p:=by
 unfold oR bH
 (repeat' split)<;>omega
theorem Pw {q p:Pk}:(if oR q.name p.name=0 then oR q.ver p.ver else oR q.name p.name)=0↔tF q p:=by
 unfold oR tF
 (repeat' split)<;>omega
theorem Cb (ps:List Pk)(hl:ps.length≤lim)(p:Pk)(hs:uD ps):FunOk PP W dK bL [bN ps,ePk p,[.fn cG [] []]] [i64 (eR ps p),bo (decide (cN ps p))]:=by
 refine mT (aU ?_)
 unfold lim at hl
 have hc:=FE ps p
 refine aY rfl (fun x:Int×Int=>0≤x.1∧x.1≤eR ps p∧eR ps p≤x.2∧x.2≤ps.length) (fun x=>[(9,.val (i64 x.1)),(10,.val (i64 x.2)),(0,.val (bN ps)),(4,.val (ePk p)),(2,.val [.fn cG [] []]),(8,.val (i64 (ps.map ePk).length))]) (fun x=>(x.2 - x.1).toNat) (0,ps.length) ⟨by dsimp only;omega,by dsimp only;omega,by dsimp only;omega,by dsimp only;omega⟩ ⟨rfl,by simp only [List.length_map];rfl,rfl,rfl,rfl,rfl,trivial⟩ rfl ?_
 rintro ⟨i,j⟩ e ⟨h0,h1,h2,h3⟩
 dsimp only at h0 h1 h2 h3 ⊢
 (repeat' first
  | (refine run_ite rfl (fun h=>?_) (fun h=>?_)<;>(try simp (disch:=omega) only [zB,eqDs,bM,Nat.reduceAdd,aA] at h)<;>(try (exfalso;omega)))
  | refine aI rfl ?_
  | refine aJ rfl ?_
  | (refine aB rfl (by rw [wK h0 (by assumption) (by omega)];exact gO (by omega) (by omega) (fun _=>rfl)) ?_)
  | (refine aB rfl (by rw [wK h0 (by assumption) (by omega)];exact gP (by omega) (by omega) (fun _=>rfl)) ?_)
  | (refine GB (ins':=[ePk (ix ps ((i+j) / 2)),ePk p]) rfl (uB (ix ps ((i+j) / 2)) p) (by rw [wK h0 (by assumption) (by omega)];simp (disch:=omega) only [zB,eqDs,bM,Nat.reduceAdd,aA]) rfl ?_)
  | (refine GB (ins':=[ePk (ix ps i),ePk p]) rfl (uB (ix ps i) p) (by simp (disch:=omega) only [zB,eqDs,bM,Nat.reduceAdd,aA]) rfl ?_)
  | (refine aS rfl (Exists.intro ((i+j) / 2+1,j) ⟨by dsimp only;omega,⟨by dsimp only;omega,?_,by dsimp only;omega,by dsimp only;omega⟩,aX (by rw [wK h0 (by assumption) (by omega)];exact aA _ (by omega)),rfl,rfl,rfl,rfl,rfl,trivial⟩))
  | (refine aS rfl (Exists.intro (i,(i+j) / 2) ⟨by dsimp only;omega,⟨by dsimp only;omega,by dsimp only;omega,?_,by dsimp only;omega⟩,rfl,aX (wK h0 (by assumption) (by omega)),rfl,rfl,rfl,rfl,trivial⟩))
  | refine aB rfl ?_ ?_
  | (refine aG rfl ?_;first | refine rb ?_ | refine ri ?_ | refine bV ?_ ?_ | refine cE ?_)
  | refine aD rfl ?_)
 ·have:=(Af hs (p:=p) (m:=(i+j) / 2) (by omega) (by omega)).1 (Jv.1 h)
  dsimp only
  omega
 ·have h4:¬(i+j) / 2<eR ps p:=fun h'=>h (Jv.2 ((Af hs (m:=(i+j) / 2) (by omega) (by omega)).2 h'))
  dsimp only
  omega
 ·exact aX (by omega)
 ·have hi:i=eR ps p:=by omega
  have h5:(if oR (ix ps i).name p.name=0 then oR (ix ps i).ver p.ver else oR (ix ps i).name p.name)=0↔cN ps p:=by
   rw [Pw,Du hs,←hi]
   exact ⟨fun h'=>⟨by omega,h'⟩,fun h'=>h'.2⟩
  show [D.bool _]=[D.bool _]
  by_cases ht:cN ps p
  ·rw [decide_eq_true ht,beq_iff_eq.2 (h5.2 ht)]
  ·rw [decide_eq_false ht,beq_eq_false_iff_ne.2 (fun h'=>ht (h5.1 h'))]
 ·exact aX (by omega)
 ·have:¬cN ps p:=fun h'=>by have:=((Du hs).1 h').1;omega
  rw [decide_eq_false this]
theorem Ri (ps:List Pk)(hl:ps.length≤lim)(p:Pk)(hp:SmP p)(hs:uD ps):FunOk PP W Ef oO [bN ps,ePk p] [bN (if cN ps p then ps else eQ ps p),bo (decide (¬cN ps p))]:=by
 refine Kt (aU ?_)
 have hc:=FE ps p
 by_cases ht:cN ps p
 ·rw [if_pos ht,decide_eq_false (fun h=>h ht)]
  have h:=Cb (W:=W) ps hl p hs
  rw [decide_eq_true ht] at h
  (repeat' first
  | (refine run_ite rfl (fun h=>?_) (fun h=>?_)<;>(try simp (disch:=omega) only [zB,eqDs,bM,Nat.reduceAdd,aA] at h)<;>(try (exfalso;omega)))
  | refine aI rfl ?_
  | refine aJ rfl ?_
  | (refine bE rfl h rfl rfl ?_)
  | refine aB rfl ?_ ?_
  | (refine aG rfl ?_;first | refine rb ?_ | refine ri ?_ | refine bV ?_ ?_ | refine cE ?_)
  | refine aD rfl ?_)
  all_goals rfl
 ·rw [if_neg ht,decide_eq_true ht,mB hs ht]
  have h:=Cb (W:=W) ps hl p hs
  rw [decide_eq_false ht] at h
  (repeat' first
  | (refine run_ite rfl (fun h=>?_) (fun h=>?_)<;>(try simp (disch:=omega) only [zB,eqDs,bM,Nat.reduceAdd,aA] at h)<;>(try (exfalso;omega)))
  | refine aI rfl ?_
  | refine aJ rfl ?_
  | refine aE rfl (rT p hp) rfl ?_
  | refine aE rfl (NZ ps p (eR ps p) hc hl) rfl ?_
  | (refine bE rfl h rfl rfl ?_)
  | refine aB rfl ?_ ?_
  | (refine aG rfl ?_;first | refine rb ?_ | refine ri ?_ | refine bV ?_ ?_ | refine cE ?_)
  | refine aD rfl ?_)
  all_goals rfl
theorem zX (t:Tu)(s:List Pk)(hk:t.r.keys.length≤lim)(hl:t.x.ms.length≤lim)(hs:jI s)(l:List UInt8)(h6:l.length≤2000000):FunOk PP vW jD dG [Jl t,bN s,sT l] [bN (kX t s l).1,bo (kX t s l).2]:=by
 refine CK (aU ?_)
 by_cases hc:Ad t∧jG s
 ·rw [kX,if_pos hc]
  have hsr:=FC hc.2
  have hg:=FI t.x hl l h6
  by_cases ht:t.has=true
  ·have hi:Cl t.x l=mR t.x l:=if_pos (by have:=hc.1.2;rw [if_pos ht] at this;exact this)
   rw [hi] at hg
   cases hh:mR t.x l with
   | none=>
    rw [nP fun _=>hh]
    have hg:FunOk PP vW jC dS [AN t.x,sT l] [ePk QY,bo false]:=by rw [hh] at hg;exact hg
    (repeat' first
  | (refine run_ite rfl (fun h=>?_) (fun h=>?_)<;>(try simp (disch:=omega) only [zB,eqDs,bM,Nat.reduceAdd,aA] at h)<;>(try (exfalso;omega)))
  | refine aI rfl ?_
  | refine aJ rfl ?_
  | refine aE rfl (kW t hk hl) rfl ?_
  | refine aE rfl (kV s hs) rfl ?_
  | refine aE rfl (CN s hs) rfl ?_
  | (refine bE rfl hg rfl rfl ?_)
  | refine aB rfl ?_ ?_
  | (refine aG rfl ?_;first | refine rb ?_ | refine ri ?_ | refine bV ?_ ?_ | refine cE ?_)
  | refine aD rfl ?_)
    all_goals first
     | rfl
     | exact absurd hc.1 h
     | exact absurd hc.2 h
     | exact absurd (ht.symm.trans h) (by decide)
   | some p=>
    have hg:FunOk PP vW jC dS [AN t.x,sT l] [ePk p,bo true]:=by rw [hh] at hg;exact hg
    have hp:=(xW (oW hh).1).2.1
    have ha:Cj t s l=(if cN s p then s else eQ s p,decide (¬cN s p)):=by
     by_cases h3:cN s p
     ·rw [pW ht hh h3,if_pos h3,decide_eq_false (fun h=>h h3)]
     ·rw [rW ht hh h3,if_neg h3,decide_eq_true h3]
    rw [ha]
    (repeat' first
  | (refine run_ite rfl (fun h=>?_) (fun h=>?_)<;>(try simp (disch:=omega) only [zB,eqDs,bM,Nat.reduceAdd,aA] at h)<;>(try (exfalso;omega)))
  | refine aI rfl ?_
  | refine aJ rfl ?_
  | refine aE rfl (kW t hk hl) rfl ?_
  | refine aE rfl (kV s hs) rfl ?_
  | refine aE rfl (CN s hs) rfl ?_
  | (refine bE rfl hg rfl rfl ?_)
  | (refine bE rfl (Ri s hs.1 p hp hsr) rfl rfl ?_)
  | refine aB rfl ?_ ?_
  | (refine aG rfl ?_;first | refine rb ?_ | refine ri ?_ | refine bV ?_ ?_ | refine cE ?_)
  | refine aD rfl ?_)
    all_goals first
     | rfl
     | exact absurd hc.1 h
     | exact absurd hc.2 h
     | exact absurd (ht.symm.trans h) (by decide)
  ·rw [nP fun h=>absurd h ht]
   (repeat' first
  | (refine run_ite rfl (fun h=>?_) (fun h=>?_)<;>(try simp (disch:=omega) only [zB,eqDs,bM,Nat.reduceAdd,aA] at h)<;>(try (exfalso;omega)))
  | refine aI rfl ?_
  | refine aJ rfl ?_
  | refine aE rfl (kW t hk hl) rfl ?_
  | refine aE rfl (kV s hs) rfl ?_
  | refine aE rfl (CN s hs) rfl ?_
  | (refine bE rfl hg rfl rfl ?_)
  | refine aB rfl ?_ ?_
  | (refine aG rfl ?_;first | refine rb ?_ | refine ri ?_ | refine bV ?_ ?_ | refine cE ?_)
  | refine aD rfl ?_)
   all_goals first
    | rfl
    | exact absurd hc.1 h
    | exact absurd hc.2 h
    | exact absurd (by assumption) ht
 ·rw [kX,if_neg hc]
  (repeat' first
  | (refine run_ite rfl (fun h=>?_) (fun h=>?_)<;>(try simp (disch:=omega) only [zB,eqDs,bM,Nat.reduceAdd,aA] at h)<;>(try (exfalso;omega)))
  | refine aI rfl ?_
  | refine aJ rfl ?_
  | refine aE rfl (kW t hk hl) rfl ?_
  | refine aE rfl (kV s hs) rfl ?_
  | refine aB rfl ?_ ?_
  | (refine aG rfl ?_;first | refine rb ?_ | refine ri ?_ | refine bV ?_ ?_ | refine cE ?_)
  | refine aD rfl ?_)
  all_goals first
   | rfl
   | exact absurd ⟨by assumption,h⟩ hc
end
section
open Classical
variable {W:Wld}

theorem It (c:List Int)(hc:NX c):∃ outs,(∃ t s l,outs=[Jl t,bN s,sT l]∧PY t∧jI s∧s.length≤8∧l.length≤30)∧FunOk PP W jM dD [Sz c] outs:=by
 obtain ⟨outs,h1,h2⟩:=dZ (Φ:=FunOk PP W) (p:=p_s_DrawStoreAdd) (ins:=[Sz c]) (G:=fun outs=>∃ t s l,outs=[Jl t,bN s,sT l]∧PY t∧jI s∧s.length≤8∧l.length≤30) (by
  have hb:=LC hc
  have ho:=PT (W:=W) c hc.1
  generalize c.take 2000=b at hb ho
  (repeat' first
  | (refine run_ite rfl (fun h=>?_) (fun h=>?_)<;>(try simp (disch:=omega) only [zB,eqDs,bM,Nat.reduceAdd,aA] at h)<;>(try (exfalso;omega)))
  | refine aI rfl ?_
  | refine aJ rfl ?_
  | refine aE rfl (ho) rfl ?_
  | (refine aW rfl (eO b hb _ _ (by first | omega | (simp only [List.length_map];omega)) (by first | omega | (simp only [List.length_map];omega) | (simp;done))) rfl (fun outs hG=>?_);obtain ⟨v,rfl,hv0,hv1⟩:=hG;(try simp only [List.length_map] at hv1);refine ⟨[i64 v],[eX b _],rfl,rfl,rfl,?_⟩)
  | (refine aW rfl (NW b hb 0 (by omega)) rfl (fun outs hG=>?_);obtain ⟨t,ps,q,rfl,ht,hq1,hq2,hq3,hq4⟩:=hG;have hps:=oT hq1 (by omega);refine ⟨[Jl t,bN ps],[eX b q],rfl,rfl,rfl,?_⟩)
  | (refine aW rfl (NK b hb _ (by omega)) rfl (fun outs hG=>?_);obtain ⟨k,q,rfl,hk1,hk2,hk3⟩:=hG;refine ⟨[ePk k],[eX b q],rfl,rfl,rfl,?_⟩)
  | refine aE rfl (nN k hk1) rfl ?_
  | refine lB rfl (nN (ix ps v) (nM hps (by omega) (by omega))) rfl ?_
  | (refine aW rfl (Ph b hb _ (by omega) ps hps (by omega)) rfl (fun outs hG=>?_);obtain ⟨s,q,rfl,hs1,hs2,hq3,hq4⟩:=hG;refine ⟨[bN s],[eX b q],rfl,rfl,rfl,?_⟩)
  | refine aB rfl ?_ ?_
  | (refine aG rfl ?_;first | refine rb ?_ | refine ri ?_ | refine bV ?_ ?_ | refine cE ?_)
  | refine aD rfl ?_)
  all_goals exact ⟨t,s,_,rfl,ht,hs1,hs2,mA _⟩)
 exact ⟨outs,h1,xM h2⟩
end
section
open Classical
variable {W:Wld}

theorem Px {t:Tu}{s:List Pk}{l:List UInt8}(h:(kX t s l).2=true):(Ad t∧jG s)∧t.has=true∧∃ p,mR t.x l=some p∧¬cN s p∧(kX t s l).1=eQ s p:=by
 unfold kX at h ⊢
 by_cases hc:Ad t∧jG s
 ·rw [if_pos hc] at h ⊢
  refine ⟨hc,?_⟩
  by_cases ht:t.has=true
  ·refine ⟨ht,?_⟩
   cases hh:mR t.x l with
   | none=>rw [nP fun _=>hh] at h;cases h
   | some p=>
    by_cases h3:cN s p
    ·rw [pW ht hh h3] at h;cases h
    ·exact ⟨p,rfl,h3,by rw [rW ht hh h3]⟩
  ·rw [nP fun h=>absurd h ht] at h;cases h
 ·rw [if_neg hc] at h;cases h
theorem Py {t:Tu}{s:List Pk}{l:List UInt8}{p:Pk}(hc:Ad t∧jG s)(ht:t.has=true)(hh:mR t.x l=some p)(h3:¬cN s p):kX t s l=(eQ s p,true):=by
 rw [kX,if_pos hc,rW ht hh h3]
theorem Ny (t:Tu){s:List Pk}(l:List UInt8){n:Nat}(hs:jI s)(hl:s.length≤n)(hn:n≤1000):jI (kX t s l).1∧(kX t s l).1.length≤n+1:=by
 have hw:∀ p,SmP p→jI (eQ s p)∧(eQ s p).length≤n+1:=fun p hp=>by
  have h:=Dn s p
  refine ⟨⟨by unfold lim;omega,fun x hx=>?_⟩,by omega⟩
  rcases Do hx with h' | h'
  ·exact hs.2 x h'
  ·rw [h'];exact hp
 have h0:jI s∧s.length≤n+1:=⟨hs,by omega⟩
 unfold kX
 split
 ·by_cases ht:t.has=true
  ·cases hh:mR t.x l with
   | none=>rw [nP fun _=>hh];exact h0
   | some p=>
    by_cases h3:cN s p
    ·rw [pW ht hh h3];exact h0
    ·rw [rW ht hh h3];exact hw p (xW (oW hh).1).2.1
  ·rw [nP fun h=>absurd h ht];exact h0
 ·exact ⟨⟨by simp,by simp⟩,by simp⟩
theorem Cc {s:List Pk}{p q:Pk}(hs:uD s)(hn:¬cN s p):q∈eQ s p↔q∈s∨q=p:=by rw [mB hs hn];exact Nc
theorem Pz {s:List Pk}{p:Pk}(hs:jG s)(hp:PkOk p)(hn:¬cN s p):jG (eQ s p):=by
 have hv:=FC hs
 refine HD (by rw [mB hv hn];exact CV hv hn) fun q hq=>?_
 rcases (Cc hv hn).1 hq with h | h
 ·obtain ⟨j,j0,j1,rfl⟩:=rS h
  exact (hs j j0 j1).1
 ·rw [h];exact hp
theorem QA {s:List Pk}(hs:jG s){p:Pk}(h:p∈s):PkOk p:=by
 obtain ⟨j,j0,j1,rfl⟩:=rS h
 exact (hs j j0 j1).1
end
section
open Classical

theorem QB (b:List Int)(hb:∀ x∈b,0≤x∧x≤255):FunOk PP vW n_l_FnTrimAdd lF [Sz b] [bo true]:=by
 refine AL (aU ?_)
 (repeat' first
  | (refine run_ite rfl (fun h=>?_) (fun h=>?_)<;>(try simp (disch:=omega) only [zB,eqDs,bM,Nat.reduceAdd,aA] at h)<;>(try (exfalso;omega)))
  | refine aI rfl ?_
  | refine aJ rfl ?_
  | refine aB rfl ?_ ?_
  | (refine aG rfl ?_;first | refine rb ?_ | refine ri ?_ | refine bV ?_ ?_ | refine cE ?_)
  | refine aD rfl ?_)
 ·rfl
 have hc:NX b:=⟨by omega,hb⟩
 refine aW rfl (It b hc) rfl (fun outs hG=>?_)
 obtain ⟨t,s,l,rfl,ht,hs,hs8,hl30⟩:=hG
 refine ⟨[Jl t,bN s,sT l],[],rfl,rfl,rfl,?_⟩
 have hk:t.r.keys.length≤lim:=by have:=ht.1;unfold lim;omega
 have hl:t.x.ms.length≤lim:=by have:=ht.2;unfold lim;omega
 have ga:=FH (W:=vW) t s hk hl hs (by omega) l (by omega)
 have gi:=zX t s hk hl hs l (by omega)
 obtain ⟨hR,hRl⟩:=Ny t l hs hs8 (by omega)
 by_cases hB:(kX t s l).2=true
 ·obtain ⟨hC,hth,p,hh,hno,hRe⟩:=Px hB
  have hP:=(xW (oW hh).1).1
  have hv:=FC hC.2
  have hRok:jG (kX t s l).1:=by rw [hRe];exact Pz hC.2 hP hno
  have hK:fX t s=s.filter (fun p=>decide (gN p∈t.x.ms)):=by rw [fX,if_pos hC,tE,if_pos hth]
  have hK2:fX t (kX t s l).1=(eQ s p).filter (fun p=>decide (gN p∈t.x.ms)):=by rw [fX,if_pos ⟨hC.1,hRok⟩,tE,if_pos hth,hRe]
  have hKv:uD (fX t s):=by rw [hK];exact List.Pairwise.filter _ hv
  have hKm:∀ q,q∈fX t s↔q∈s∧gN q∈t.x.ms:=fun q=>by rw [hK,List.mem_filter,decide_eq_true_eq]
  have hKn:¬cN (fX t s) p:=fun ⟨q,hq,e⟩=>hno ⟨q,((hKm q).1 hq).1,e⟩
  have hKok:jG (fX t s):=HD hKv fun q hq=>QA hC.2 ((hKm q).1 hq).1
  have hKs:jI (fX t s):=by
   rw [hK]
   exact ⟨Nat.le_trans (List.length_filter_le _ _) hs.1,fun x hx=>hs.2 x (List.mem_filter.1 hx).1⟩
  have hKl:(fX t s).length≤8:=by
   rw [hK]
   exact Nat.le_trans (List.length_filter_le _ _) hs8
  have hE:fX t (kX t s l).1=eQ (fX t s) p:=by
   refine HC ?_ (by rw [mB hKv hKn];exact CV hKv hKn) fun q=>?_
   ·rw [hK2,mB hv hno]
    exact List.Pairwise.filter _ (CV hv hno)
   ·rw [hK2,List.mem_filter,decide_eq_true_eq,Cc hv hno,Cc hKv hKn,hKm]
    constructor
    ·rintro ⟨h | h,h'⟩
     ·exact .inl ⟨h,h'⟩
     ·exact .inr h
    ·rintro (⟨h,h'⟩ | h)
     ·exact ⟨.inl h,h'⟩
     ·exact ⟨.inr h,by rw [h];exact (oW hh).2⟩
  have ht1:=wI (W:=vW) t s hk hl hs
  have ht2:=wI (W:=vW) t (kX t s l).1 hk hl hR
  rw [hE] at ht2
  have hy:=zX t (fX t s) hk hl hKs l (by omega)
  have hys:=(Ny t l hKs hKl (by omega)).1
  rw [Py ⟨hC.1,hKok⟩ hth hh hKn] at hy hys
  have hy:FunOk PP vW jD dG [Jl t,bN (fX t s),sT l] [bN (eQ (fX t s) p),bo true]:=hy
  have hys:jI (eQ (fX t s) p):=hys
  rw [hB] at ga gi
  have f4:=xR (W:=vW) (kX t s l).1 (kX t s l).1 hR
  rw [decide_eq_true rfl] at f4
  have f5:=xR (W:=vW) _ (eQ (fX t s) p) hys
  rw [decide_eq_true rfl] at f5
  generalize eQ (fX t s) p=Y at *
  generalize fX t s=K at *
  generalize (kX t s l).1=R at *
  (repeat' first
  | (refine run_ite rfl (fun h=>?_) (fun h=>?_)<;>(try simp (disch:=omega) only [zB,eqDs,bM,Nat.reduceAdd,aA] at h)<;>(try (exfalso;omega)))
  | refine aI rfl ?_
  | refine aJ rfl ?_
  | (refine bE rfl ga rfl rfl ?_)
  | (refine bE rfl gi rfl rfl ?_)
  | refine aE rfl (f4) rfl ?_
  | refine aE rfl (f5) rfl ?_
  | refine aE rfl (ht1) rfl ?_
  | refine aE rfl (ht2) rfl ?_
  | (refine bE rfl hy rfl rfl ?_)
  | refine aB rfl ?_ ?_
  | (refine aG rfl ?_;first | refine rb ?_ | refine ri ?_ | refine bV ?_ ?_ | refine cE ?_)
  | refine aD rfl ?_)
  all_goals first
   | rfl
   | exact absurd trivial (by assumption)
   | (trace_state;sorry)
 ·have hB0:(kX t s l).2=false:=by simpa using hB
  rw [hB0] at ga gi
  generalize (kX t s l).1=R at *
  (repeat' first
  | (refine run_ite rfl (fun h=>?_) (fun h=>?_)<;>(try simp (disch:=omega) only [zB,eqDs,bM,Nat.reduceAdd,aA] at h)<;>(try (exfalso;omega)))
  | refine aI rfl ?_
  | refine aJ rfl ?_
  | (refine bE rfl ga rfl rfl ?_)
  | (refine bE rfl gi rfl rfl ?_)
  | refine aE rfl (xR R R hR) rfl ?_
  | refine aB rfl ?_ ?_
  | (refine aG rfl ?_;first | refine rb ?_ | refine ri ?_ | refine bV ?_ ?_ | refine cE ?_)
  | refine aD rfl ?_)
  all_goals first
   | rfl
   | exact decide_eq_true rfl
   | exact absurd trivial (by assumption)
   | (trace_state;sorry)
end
section
open Go.RowKit

def TV:List UInt8:=[105,110,118,97,108,105,100,32,115,121,110,116,97,120]
def TW:List UInt8:=[118,97,108,117,101,32,111,117,116,32,111,102,32,114,97,110,103,101]
def Rj (t:List UInt8):DataW Unit:= .iface "*errors.errorString" (.ptr (.agg [.lit (.string t)]))
theorem HI:"*" ++"errors.errorString" ="*errors.errorString" :=by decide
theorem QC (u:TypeId)(h:Tryz.prog.typeName? 3 u=some "*errors.errorString"):u=217:=
 typeName_ptr_named (nm:="errors.errorString") (by rw [HI];kernel_rfl) (by kernel_rfl) (by decide) u (by rw [HI];exact h)
theorem Nz {laid:List (String×DataW Unit)}{W:World}{n:String}{t:List UInt8}{g:Nat}(hL:laidMetH Tryz.prog laid W)(hf:(laid.filter fun x=>x.2.handleName?.isNone).filter (fun x=>x.1==n)=[(n,Rj t)])
  (hg:Tryz.prog.globalNamed n=some g)(ht:(Tryz.prog.globals[g]?).map (·.type)=some 92):∃ v,W.cell? ⟨g,0,none⟩=some v∧Ru v:=by
 exact PO hL hf hg ht Tryz.underlying92 QC Tryz.underlying217 Tryz.underlying219 rfl rfl Tryz.underlying9 (by kernel_rfl) (by kernel_rfl)
theorem TX {laid:List (String×DataW Unit)}{W:World}(hL:laidMetH Tryz.prog laid W)(hsh:W.ShapedOpen Tryz.prog)
  (h1:(laid.filter fun x=>x.2.handleName?.isNone).filter (fun x=>x.1=="strconv.ErrSyntax")=[("strconv.ErrSyntax",Rj TV)])
  (h2:(laid.filter fun x=>x.2.handleName?.isNone).filter (fun x=>x.1=="strconv.ErrRange")=[("strconv.ErrRange",Rj TW)]):vW.P W:=
 Si (cell_of_shapedOpen_int (t:=3) (zero:=#[.int .i64 0]) hsh (of_decide_eq_true (by kernel_rfl)) (by kernel_rfl) rfl (by kernel_rfl) (by kernel_rfl) (by kernel_rfl))
  (Nz hL h1 (by kernel_rfl) (by kernel_rfl)) (Nz hL h2 (by kernel_rfl) (by kernel_rfl))
end
end V
end Go.Proofs.YtmgpamcpdblckaaGreatDoor
