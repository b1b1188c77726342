/-
Part 6 of the proof of the claimed statement (its last part holds the theorem, and says what is proved). Conditions: none.
-/
import Derived.Test.YtgekfemnjphmbaaGreatM5
import Derived.Test.YtgekfemnjphmbaaGreatChecked
import Derived.Tactics
import Derived.Tactics2
import Derived.WalkKit
import Derived.RowKit3
import Derived.RegionTactic
import Derived.Lib.AppendZeros
import Derived.Laws.NewBlocks
set_option linter.all false
set_option maxRecDepth 100000
/-
Plain proofs: the text of an index; the reference's WorldOk and WorldMay.
-/
namespace Go.Proofs.YtgekfemnjphmbaaGreat
namespace V
section
open Classical
variable {W:Wld}

/-! Numbers in decimals. -/
def pw:Nat→Int
  | 0=>10
  | k+1=>10*pw k
def wA:Nat→Int→List UInt8
  | 0,n=>[u8 (48+n)]
  | k+1,n=>if n<10 then [u8 (48+n)] else wA k (n / 10)++[u8 (48+n % 10)]
def Mm (l:List UInt8):Int:=l.foldl (fun n b=>10*n+((b.toNat:Int) - 48)) 0
theorem Ph {n:Int}(h:0≤n∧n≤9):Mm [u8 (48+n)]=n:=by
  have:=rE (48+n) (by omega)
  unfold Mm
  simp only [List.foldl_cons,List.foldl_nil]
  omega
theorem Yb (a:List UInt8){n:Int}(h:0≤n∧n≤9):Mm (a++[u8 (48+n)])=10*Mm a+n:=by
  have:=rE (48+n) (by omega)
  unfold Mm
  rw [List.foldl_append]
  simp only [List.foldl_cons,List.foldl_nil]
  omega
theorem Aw:∀ (k:Nat) (n:Int),0≤n→n<pw k→Mm (wA k n)=n
  | 0,n,h0,h1=>Ph (by unfold pw at h1;omega)
  | k+1,n,h0,h1=>by
    unfold wA
    split
    · exact Ph (by omega)
    · unfold pw at h1
      rw [Yb _ (by omega),Aw k (n / 10) (by omega) (by omega)]
      omega
def Dig (l:List UInt8):Prop:=∀ b∈l,48≤b.toNat∧b.toNat≤57
theorem Mn {n:Int}(h:0≤n∧n≤9):Dig [u8 (48+n)]:=fun b hb=>by
  rw [List.mem_singleton.1 hb]
  have:=rE (48+n) (by omega)
  omega
theorem uJ:∀ (k:Nat) (n:Int),0≤n→n<pw k→Dig (wA k n)
  | 0,n,h0,h1=>Mn (by unfold pw at h1;omega)
  | k+1,n,h0,h1=>by
    unfold wA
    split
    · exact Mn (by omega)
    · unfold pw at h1
      intro b hb
      rcases List.mem_append.1 hb with h | h
      · exact uJ k (n / 10) (by omega) (by omega) b h
      · exact Mn (n:=n % 10) (by omega) b h
theorem rF:∀ (k:Nat) (n:Int),(wA k n).length≤k+1
  | 0,n=>Nat.le_refl _
  | k+1,n=>by
    unfold wA
    split
    · simp
    · have:=rF k (n / 10)
      simp
      omega
theorem BP {l:List UInt8}(h:Dig l){c:UInt8}(hc:c.toNat<48):c∉l:=fun hm=>by have:=h c hm;omega
theorem UB:∀ (k:Nat) (n:Int),k≤10→0≤n→n<pw k→n≤1000000→FunOk PP W gH eW [i64 n] [sT (wA k n)]
  | 0,n,_,h0,h1,_=>EA n (by unfold pw at h1;omega)
  | k+1,n,hk,h0,h1,h2=>by
    unfold wA
    split
    · exact EA n (by omega)
    · rename_i hn
      unfold pw at h1
      have ih:=UB k (n / 10) (by omega) (by omega) (by omega) (by omega)
      have hl:=rF k (n / 10)
      refine LE (aH ?_)
      have e1:IntKind.i64.wrap (n.tdiv 10)=n / 10:=by rw [Int.tdiv_eq_ediv_of_nonneg h0,aC _ (by omega)]
      have e2:n.tmod 10=n % 10:=Int.tmod_eq_emod_of_nonneg h0
      (repeat' first
    | (refine run_ite rfl (fun h=>?_) (fun h=>?_)<;>(try simp (disch:=omega) only [zB,eqDs,aT,Nat.reduceAdd,aC] at h)<;>(try (exfalso;omega)))
    | refine aF rfl ?_
    | refine aG rfl ?_
    | (refine xU rfl ih (by rw [e1]) rfl ?_)
    | refine aB rfl ?_ ?_
    | (refine aE rfl ?_;first | refine rb ?_ | refine ri ?_ | refine aZ ?_ ?_ | refine aY ?_)
    | refine aD rfl ?_)
      · rw [BN,sz1];unfold lim;omega
      · rw [e2,aC _ (by omega),SL _ (by omega)]
        exact LS (Es _ [u8 (48+n % 10)])
theorem SU (k:Nat)(n:Int)(hk:k≤3)(h0:0≤n)(h1:n<pw k):FunOk PP W gH eW [i64 n] [sT (wA k n)]:=by
  refine UB k n (by omega) h0 h1 ?_
  have:pw k≤pw 3:=by
    match k,hk with
    | 0,_=>decide
    | 1,_=>decide
    | 2,_=>decide
    | 3,_=>decide
  have h3:pw 3=10000:=by decide
  omega

/-! The text of an index. -/
def mT (m:Mt):List UInt8:=Dy m.name m.ver++32::(wA 3 m.sum++[10])
def xT (x:Ix):List UInt8:=wA 1 x.num++32::(wA 1 x.till++10::x.ms.flatMap mT)
noncomputable def GI (x:Ix):List UInt8:=if HD x then xT x else []
theorem aD1 (m:Mt):(mT m).length≤8:=by
  have:=rF 3 m.sum
  unfold mT
  simp only [List.length_append,List.length_cons,List.length_nil,Mj]
  omega
theorem spl:∀ {a b r s:List UInt8} {c:UInt8},c∉a→c∉b→a++c::r=b++c::s→a=b∧r=s
  | [],[],r,s,c,_,_,h=>⟨rfl,by simpa using h⟩
  | [],y::b,r,s,c,_,hb,h=>by
    simp only [List.nil_append,List.cons_append,List.cons.injEq] at h
    exact absurd (h.1▸List.mem_cons_self ..) hb
  | x::a,[],r,s,c,ha,_,h=>by
    simp only [List.nil_append,List.cons_append,List.cons.injEq] at h
    exact absurd (h.1▸List.mem_cons_self ..) ha
  | x::a,y::b,r,s,c,ha,hb,h=>by
    simp only [List.cons_append,List.cons.injEq] at h
    obtain ⟨h1,h2⟩:=spl (fun h'=>ha (List.mem_cons_of_mem _ h')) (fun h'=>hb (List.mem_cons_of_mem _ h')) h.2
    exact ⟨by rw [h.1,h1],h2⟩
def aA9 (m:Mt):Prop:=(1≤m.name∧m.name≤4)∧(1≤m.ver∧m.ver≤5)∧(0≤m.sum∧m.sum≤9972)
theorem Yc {x:Ix}(h:HD x):∀ m∈x.ms,aA9 m:=fun m hm=>by
  obtain ⟨i,h0,h1,rfl⟩:=hH hm
  obtain ⟨a,b,c,_⟩:=h.2.2.2 i h0 h1
  exact ⟨a,b,c⟩
theorem Yd {a b:Int}(ha:0≤a∧a≤255)(hb:0≤b∧b≤255)(h:u8 a=u8 b):a=b:=by
  rw [←rE a ha,←rE b hb,h]
theorem Ye {m:Mt}(h:aA9 m):0≤m.sum∧m.sum<pw 3:=by
  have:=h.2.2
  have:pw 3=10000:=by decide
  omega
theorem UC:∀ {a b:List Mt},(∀ m∈a,aA9 m)→(∀ m∈b,aA9 m)→a.flatMap mT=b.flatMap mT→a=b
  | [],[],_,_,_=>rfl
  | [],y::b,_,_,h=>by simp [mT,Dy] at h
  | x::a,[],_,_,h=>by simp [mT,Dy] at h
  | x::a,y::b,ha,hb,h=>by
    have hx:=ha x (List.mem_cons_self ..)
    have hy:=hb y (List.mem_cons_self ..)
    have sx:=Ye hx
    have sy:=Ye hy
    have dx:=uJ 3 x.sum sx.1 sx.2
    have dy:=uJ 3 y.sum sy.1 sy.2
    simp only [List.flatMap_cons,mT,Dy,List.cons_append,List.nil_append,List.append_assoc,List.cons.injEq,true_and] at h
    obtain ⟨h1,h2,h3⟩:=h
    obtain ⟨h4,h5⟩:=spl (BP dx (by decide)) (BP dy (by decide)) h3
    have b1:=hx.1
    have b2:=hx.2.1
    have c1:=hy.1
    have c2:=hy.2.1
    have e1:=Yd (by omega) (by omega) h1
    have e2:=Yd (by omega) (by omega) h2
    have e3:=congrArg Mm h4
    rw [Aw 3 _ sx.1 sx.2,Aw 3 _ sy.1 sy.2] at e3
    rw [UC (fun m hm=>ha m (List.mem_cons_of_mem _ hm)) (fun m hm=>hb m (List.mem_cons_of_mem _ hm)) h5]
    have e1:x.name=y.name:=by omega
    have e2:x.ver=y.ver:=by omega
    cases x;cases y
    simp only at e1 e2 e3
    rw [e1,e2,e3]
theorem aD2 {x y:Ix}(hx:HD x)(hy:HD y)(h:xT x=xT y):x=y:=by
  have p1:pw 1=100:=by decide
  have hx1:=hx.1
  have hx2:=hx.2.1
  have hy1:=hy.1
  have hy2:=hy.2.1
  unfold xT at h
  obtain ⟨h1,h2⟩:=spl (BP (uJ 1 x.num (by omega) (by omega)) (by decide)) (BP (uJ 1 y.num (by omega) (by omega)) (by decide)) h
  obtain ⟨h3,h4⟩:=spl (BP (uJ 1 x.till (by omega) (by omega)) (by decide)) (BP (uJ 1 y.till (by omega) (by omega)) (by decide)) h2
  have e1:=congrArg Mm h1
  have e2:=congrArg Mm h3
  rw [Aw 1 _ (by omega) (by omega),Aw 1 _ (by omega) (by omega)] at e1 e2
  have e3:=UC (Yc hx) (Yc hy) h4
  cases x;cases y
  simp only at e1 e2 e3
  rw [e1,e2,e3]
theorem BQ {x y:Ix}(hx:HD x)(hy:HD y):GI x=GI y↔x=y:=by
  unfold GI
  rw [if_pos hx,if_pos hy]
  exact ⟨aD2 hx hy,fun h=>by rw [h]⟩
theorem aBa (acc:List UInt8)(m:Mt):bA acc++bA (Dy m.name m.ver)++⟨#[32]⟩++bA (wA 3 m.sum)++⟨#[10]⟩=bA (acc++mT m):=by
  show bA acc++bA (Dy m.name m.ver)++bA [32]++bA (wA 3 m.sum)++bA [10]=_
  simp only [Es,List.append_assoc]
  rfl
theorem UD {α:Type}(f:α→List UInt8)(n:Nat)(hf:∀ x,(f x).length≤n):∀ xs:List α,(xs.flatMap f).length≤n*xs.length
  | []=>by simp
  | x::r=>by
    have:=UD f n hf r
    have:=hf x
    simp only [List.flatMap_cons,List.length_append,List.length_cons]
    rw [Nat.mul_add]
    omega
def hT (x:Ix):List UInt8:=wA 1 x.num++32::(wA 1 x.till++[10])
theorem aD3 (x:Ix):(hT x).length≤6:=by
  have:=rF 1 x.num
  have:=rF 1 x.till
  unfold hT
  simp only [List.length_append,List.length_cons,List.length_nil]
  omega
theorem aGm (x:Ix):xT x=hT x++x.ms.flatMap mT:=by unfold xT hT;simp
theorem aBb (x:Ix):bA (wA 1 x.num)++⟨#[32]⟩++bA (wA 1 x.till)++⟨#[10]⟩=bA (hT x):=by
  show bA (wA 1 x.num)++bA [32]++bA (wA 1 x.till)++bA [10]=_
  simp only [Es,List.append_assoc]
  rfl
theorem Bx (x:Ix)(hl:x.ms.length≤lim):FunOk PP W pV iY [Mi x] [sT (GI x)]:=by
  refine KI (aH ?_)
  have p1:pw 1=100:=by decide
  have p3:pw 3=10000:=by decide
  by_cases hx:HD x
  · have hx1:=hx.1
    have hx2:=hx.2.1
    have hx3:=hx.2.2.1
    have d1:=rF 1 x.num
    have d2:=rF 1 x.till
    have dh:=aD3 x
    rw [GI,if_pos hx,aGm]
    (repeat' first
    | (refine run_ite rfl (fun h=>?_) (fun h=>?_)<;>(try simp (disch:=omega) only [zB,eqDs,aT,Nat.reduceAdd,aC] at h)<;>(try (exfalso;omega)))
    | refine aF rfl ?_
    | refine aG rfl ?_
    | refine aA rfl (rD x hl) rfl ?_
    | refine aA rfl (SU 1 x.num (by omega) (by omega) (by omega)) rfl ?_
    | refine aA rfl (SU 1 x.till (by omega) (by omega) (by omega)) rfl ?_
    | (refine aB rfl (by simp only [ByteArray.size_append,BN,sz1];unfold lim;omega) ?_)
    | refine aB rfl ?_ ?_
    | (refine aE rfl ?_;first | refine rb ?_ | refine ri ?_ | refine aZ ?_ ?_ | refine aY ?_)
    | refine aD rfl ?_)
    · exact absurd hx h
    refine aO rfl (fun i:Int=>0≤i∧i≤x.ms.length) (fun i=>[(4,.val (i64 i)),(3,.val (sT (hT x++(x.ms.take i.toNat).flatMap mT))),(1,.val (Mi x))]) (fun i=>(x.ms.length - i).toNat) 0 ⟨by omega,by omega⟩ ⟨rfl,LS ((aBb x).trans (by simp)),rfl,trivial⟩ rfl ?_
    rintro i e ⟨h0,hN⟩
    by_cases hi:i<x.ms.length
    · obtain ⟨ma,mb,mc,_⟩:=hx.2.2.2 i h0 hi
      have hl:(hT x++(x.ms.take i.toNat).flatMap mT).length≤100:=by
        have:=UD mT 8 aD1 (x.ms.take i.toNat)
        rw [List.length_take] at this
        rw [List.length_append]
        omega
      have d3:=rF 3 (ix x.ms i).sum
      (repeat' first
    | (refine run_ite rfl (fun h=>?_) (fun h=>?_)<;>(try simp (disch:=omega) only [zB,eqDs,aT,Nat.reduceAdd,aC] at h)<;>(try (exfalso;omega)))
    | refine aF rfl ?_
    | refine aG rfl ?_
    | refine cE rfl (Et (ix x.ms i).name (ix x.ms i).ver ma mb) rfl ?_
    | refine cE rfl (SU 3 (ix x.ms i).sum (by omega) (by omega) (by omega)) rfl ?_
    | (refine aB rfl (by simp only [ByteArray.size_append,BN,sz1,Mj];unfold lim;omega) ?_)
    | (refine aN rfl (Exists.intro (i+1) ⟨by omega,⟨by omega,by omega⟩,aP (aC _ (by omega)),?_,rfl,trivial⟩))
    | refine aB rfl ?_ ?_
    | (refine aE rfl ?_;first | refine rb ?_ | refine ri ?_ | refine aZ ?_ ?_ | refine aY ?_)
    | refine aD rfl ?_)
      exact LS ((aBa (hT x++(x.ms.take i.toNat).flatMap mT) (ix x.ms i)).trans (by rw [YU mT x.ms h0 hi,List.append_assoc]))
    · have ht:x.ms.take i.toNat=x.ms:=List.take_of_length_le (by omega)
      rw [ht]
      (repeat' first
    | (refine run_ite rfl (fun h=>?_) (fun h=>?_)<;>(try simp (disch:=omega) only [zB,eqDs,aT,Nat.reduceAdd,aC] at h)<;>(try (exfalso;omega)))
    | refine aF rfl ?_
    | refine aG rfl ?_
    | refine aB rfl ?_ ?_
    | (refine aE rfl ?_;first | refine rb ?_ | refine ri ?_ | refine aZ ?_ ?_ | refine aY ?_)
    | refine aD rfl ?_)
      rfl
  · rw [GI,if_neg hx]
    (repeat' first
    | (refine run_ite rfl (fun h=>?_) (fun h=>?_)<;>(try simp (disch:=omega) only [zB,eqDs,aT,Nat.reduceAdd,aC] at h)<;>(try (exfalso;omega)))
    | refine aF rfl ?_
    | refine aG rfl ?_
    | refine aA rfl (rD x hl) rfl ?_
    | refine aB rfl ?_ ?_
    | (refine aE rfl ?_;first | refine rb ?_ | refine ri ?_ | refine aZ ?_ ?_ | refine aY ?_)
    | refine aD rfl ?_)
    · rfl
    all_goals exact absurd h hx
theorem By (x y:Ix)(hx:x.ms.length≤lim)(hy:y.ms.length≤lim):FunOk PP W lB fS [Mi x,Mi y] [bo (decide (GI x=GI y))]:=by
  refine Ek (aH ?_)
  (repeat' first
    | (refine run_ite rfl (fun h=>?_) (fun h=>?_)<;>(try simp (disch:=omega) only [zB,eqDs,aT,Nat.reduceAdd,aC] at h)<;>(try (exfalso;omega)))
    | refine aF rfl ?_
    | refine aG rfl ?_
    | refine aA rfl (Bx x hx) rfl ?_
    | refine aA rfl (Bx y hy) rfl ?_
    | refine aB rfl ?_ ?_
    | (refine aE rfl ?_;first | refine rb ?_ | refine ri ?_ | refine aZ ?_ ?_ | refine aY ?_)
    | refine aD rfl ?_)
  exact SQ (by rw [beq_iff_eq];exact Ya)
theorem Pi (w:Wo)(x:Ix)(hs:BdW w)(hX:∀ s∈w.ixs,HD (yQ s))(hx:HD x):FunOk PP W sZ jZ [sO w,Mi x] [bo (decide (XIs w.ixs x))]:=by
  refine IT (aH ?_)
  have hl:=hs.ixs.1
  have hb:=Ey hs.ixs.2
  have hxl:x.ms.length≤lim:=by have:=hx.2.2.1;unfold lim;omega
  (repeat' first
    | (refine run_ite rfl (fun h=>?_) (fun h=>?_)<;>(try simp (disch:=omega) only [zB,eqDs,aT,Nat.reduceAdd,aC] at h)<;>(try (exfalso;omega)))
    | refine aF rfl ?_
    | refine aG rfl ?_
    | refine aB rfl ?_ ?_
    | (refine aE rfl ?_;first | refine rb ?_ | refine ri ?_ | refine aZ ?_ ?_ | refine aY ?_)
    | refine aD rfl ?_)
  refine aO rfl (fun i:Int=>0≤i∧i≤w.ixs.length∧mC i (fun j=>yQ (ix w.ixs j)≠x)) (fun i=>[(5,.val (i64 i)),(2,.val (sO w)),(3,.val (Mi x))]) (fun i=>(w.ixs.length - i).toNat) 0 ⟨by omega,by omega,bB _⟩ ⟨rfl,rfl,rfl,trivial⟩ rfl ?_
  rintro i e ⟨h0,hN,hP⟩
  (repeat' first
    | (refine run_ite rfl (fun h=>?_) (fun h=>?_)<;>(try simp (disch:=omega) only [zB,eqDs,aT,Nat.reduceAdd,aC] at h)<;>(try (exfalso;omega)))
    | refine aF rfl ?_
    | refine aG rfl ?_
    | refine cE rfl (By (yQ (ix w.ixs i)) x (bX (hb i).1) hxl) rfl ?_
    | (refine aN rfl (Exists.intro (i+1) ⟨by omega,⟨by omega,by omega,bH hP ?_⟩,aP (aC _ (by omega)),rfl,rfl,trivial⟩))
    | refine aB rfl ?_ ?_
    | (refine aE rfl ?_;first | refine rb ?_ | refine ri ?_ | refine aZ ?_ ?_ | refine aY ?_)
    | refine aD rfl ?_)
  all_goals first
    | exact tD (p:=XIs w.ixs x) ⟨_,dO h0 (by assumption),(BQ (hX _ (dO h0 (by assumption))) hx).1 h⟩
    | exact fD (p:=XIs w.ixs x) (fun h'=>by
        obtain ⟨s,hs',e⟩:=h'
        obtain ⟨j,j0,j1,rfl⟩:=hH hs'
        exact hP j j0 (by omega) e)
    | exact fun e=>h ((BQ (hX _ (dO h0 (by assumption))) hx).2 e)
theorem Yf {ps:List Pk}(h:SmPs ps)(i:Int):SmP (ix ps i):=Tx h.2 ⟨Nat.zero_le _,Nat.zero_le _⟩ i
theorem Ax (w:Wo)(l:List Pk)(hs:BdW w)(hl:SmPs l)(h1:l.length≤2000000)(hp:PksOk w.pkgs)(hq:PksOk l):FunOk PP W qH kA [sO w,cK l] [bo (decide (PubL w.pkgs l))]:=by
  refine OW (aH ?_)
  have hs1:=hs.pkgs.1
  have hs2:=hs.pkgs.2
  (repeat' first
    | (refine run_ite rfl (fun h=>?_) (fun h=>?_)<;>(try simp (disch:=omega) only [zB,eqDs,aT,Nat.reduceAdd,aC] at h)<;>(try (exfalso;omega)))
    | refine aF rfl ?_
    | refine aG rfl ?_
    | refine aB rfl ?_ ?_
    | (refine aE rfl ?_;first | refine rb ?_ | refine ri ?_ | refine aZ ?_ ?_ | refine aY ?_)
    | refine aD rfl ?_)
  refine aO rfl (fun i:Int=>0≤i∧i≤l.length∧mC i (fun j=>ix l j∈w.pkgs)) (fun i=>[(5,.val (i64 i)),(2,.val (sO w)),(1,.val (cK l))]) (fun i=>(l.length - i).toNat) 0 ⟨by omega,by omega,bB _⟩ ⟨rfl,rfl,rfl,trivial⟩ rfl ?_
  rintro i e ⟨h0,hN,hP⟩
  by_cases hi:i<l.length
  · have hm:=dO h0 hi
    have hk:=Tv (Yw (ix l i).name (ix l i).ver) w.pkgs w.pkgs.length 0 (Int.le_refl 0)
    have hj:=iQ (Yw (ix l i).name (ix l i).ver) w.pkgs
    have hf:=aA1 (W:=W) w.pkgs hs1.1 (ix l i).name (ix l i).ver
    generalize cF (Yw (ix l i).name (ix l i).ver) w.pkgs w.pkgs.length 0=k at hk hj hf
    (repeat' first
    | (refine run_ite rfl (fun h=>?_) (fun h=>?_)<;>(try simp (disch:=omega) only [zB,eqDs,aT,Nat.reduceAdd,aC] at h)<;>(try (exfalso;omega)))
    | refine aF rfl ?_
    | refine aG rfl ?_
    | refine cE rfl (hf) rfl ?_
    | (refine xU rfl (GG (ix w.pkgs k) (Yf hs1 k)) ?_ rfl ?_;focus (simp (disch:=omega) only [zB,eqDs,aT,Nat.reduceAdd,aC];done))
    | (refine xU rfl (GG (ix l i) (Yf hl i)) ?_ rfl ?_;focus (simp (disch:=omega) only [zB,eqDs,aT,Nat.reduceAdd,aC];done))
    | (refine aN rfl (Exists.intro (i+1) ⟨by omega,⟨by omega,by omega,bH hP ?_⟩,aP (aC _ (by omega)),rfl,rfl,trivial⟩))
    | refine aB rfl ?_ ?_
    | (refine aE rfl ?_;first | refine rb ?_ | refine ri ?_ | refine aZ ?_ ?_ | refine aY ?_)
    | refine aD rfl ?_)
    · exact fD (p:=PubL w.pkgs l) (fun h'=>by have:=hj.2 ⟨_,h' _ hm,rfl,rfl⟩;omega)
    · exact fD (p:=PubL w.pkgs l) (fun h'=>h (by
        have h0:=hk (by omega)
        rw [YX hp (h' _ hm) (dO h0.1 (by omega)) ⟨h0.2.2.1.symm,h0.2.2.2.symm⟩]))
    · have h0:=hk (by omega)
      have hmk:=dO (xs:=w.pkgs) h0.1 (by omega)
      rw [←Vm (LN hp hmk) (LN hq hm) (Ya.1 h)]
      exact hmk
  · (repeat' first
    | (refine run_ite rfl (fun h=>?_) (fun h=>?_)<;>(try simp (disch:=omega) only [zB,eqDs,aT,Nat.reduceAdd,aC] at h)<;>(try (exfalso;omega)))
    | refine aF rfl ?_
    | refine aG rfl ?_
    | refine aB rfl ?_ ?_
    | (refine aE rfl ?_;first | refine rb ?_ | refine ri ?_ | refine aZ ?_ ?_ | refine aY ?_)
    | refine aD rfl ?_)
    exact tD (p:=PubL w.pkgs l) (fun p hp'=>by
      obtain ⟨j,j0,j1,rfl⟩:=hH hp'
      exact hP j j0 (by omega))
theorem Pj {bad:List Int}{l:List SR}(h:RtsM bad l):∀ s∈l,KeysM s.keys:=fun s hs=>by
  obtain ⟨i,i0,i1,rfl⟩:=hH hs
  exact (h.1 i i0 i1).1.1.2.1
theorem Yg {bad:List Int}{l:List SR}(h:RtsM bad l):∀ s∈l,KeysM s.sigs:=fun s hs=>by
  obtain ⟨i,i0,i1,rfl⟩:=hH hs
  exact (h.1 i i0 i1).1.2.1
theorem Yh {now:Int}{l:List SX}(h:XsM now l):∀ s∈l,HD (yQ s):=fun s hs=>by
  obtain ⟨i,i0,i1,rfl⟩:=hH hs
  exact (h i i0 i1).1
theorem aBc {now:Int}{l:List SX}(h:XsM now l):∀ s∈l,KeysM s.sigs:=fun s hs=>by
  obtain ⟨i,i0,i1,rfl⟩:=hH hs
  exact (h i i0 i1).2.1
theorem aD4 {t:Tu}(h:TuM t)(hh:t.has=true):HD t.x:=by have:=h.2;rw [if_pos hh] at this;exact this
set_option maxHeartbeats 4000000 in
theorem GJ (w:Wo)(hs:BdW w):FunOk PP W AM qL [sO w] [bo (decide (WoM w))]:=by
  refine OA (aH ?_)
  (repeat' first
    | (refine run_ite rfl (fun h=>?_) (fun h=>?_)<;>(try simp (disch:=omega) only [zB,eqDs,aT,Nat.reduceAdd,aC] at h)<;>(try (exfalso;omega)))
    | refine aF rfl ?_
    | refine aG rfl ?_
    | refine aA rfl (sC ..) rfl ?_
    | refine aA rfl (kQ w.bad (bX hs.bad)) rfl ?_
    | refine aA rfl (Vl w hs) rfl ?_
    | refine aA rfl (Pe w hs (by assumption)) rfl ?_
    | refine aA rfl (As w.pkgs hs.pkgs.1) rfl ?_
    | refine aA rfl (PZ w.tr (bX hs.keys) (bX hs.ms)) rfl ?_
    | refine aA rfl (As w.store hs.store.1) rfl ?_
    | refine aA rfl (SC w.dk hs.dk.1) rfl ?_
    | refine aA rfl (SS w w.tr.r hs (Pj (by assumption)) hs.keys) rfl ?_
    | refine aA rfl (Pi w w.tr.x hs (Yh (by assumption)) (aD4 (by assumption) (by assumption))) rfl ?_
    | refine aA rfl (Ax w w.store hs hs.store.1 hs.store.2 (by assumption) (by assumption)) rfl ?_
    | refine aA rfl (Ax w w.dk.db hs hs.dk.1.1 hs.dk.2.1 (by assumption) ((show DkOk w.dk by assumption).2.2.1.1)) rfl ?_
    | refine aA rfl (Ax w w.dk.jour hs hs.dk.1.2.2 hs.dk.2.2 (by assumption) (VX (by assumption)).1) rfl ?_
    | refine aB rfl ?_ ?_
    | (refine aE rfl ?_;first | refine rb ?_ | refine ri ?_ | refine aZ ?_ ?_ | refine aY ?_)
    | refine aD rfl ?_)
  all_goals first
    | exact fD (p:=WoM w) (fun h'=>by
        first | exact h h'.now | exact h h'.bad | exact h h'.roots | exact h h'.ixs | exact h h'.pkgs | (have:=h'.many;omega) | exact h h'.tr | exact h h'.store | exact h h'.dk | exact h h'.root | exact h (h'.index (by assumption)) | exact h h'.pdb | exact h h'.ps)
    | exact SQ (p:=WoM w) (by
        rw [decide_eq_true_eq]
        exact ⟨fun h'=>⟨by assumption,by assumption,by assumption,by assumption,by assumption,by omega,by assumption,by assumption,by assumption,by assumption,fun hh=>by first | assumption | (simp_all;done),by assumption,by assumption,h'⟩,fun h'=>h'.pj⟩)

/-! What may be signed so. -/
theorem UE (w:Wo)(by':List Int)(hs:BdW w)(hb:by'.length≤1048576)(hk:KeysM w.bad):FunOk PP W yH pJ [sO w,uL by'] [bo (decide (Pb w.bad by'))]:=by
  refine Rc (aH ?_)
  (repeat' first
    | (refine run_ite rfl (fun h=>?_) (fun h=>?_)<;>(try simp (disch:=omega) only [zB,eqDs,aT,Nat.reduceAdd,aC] at h)<;>(try (exfalso;omega)))
    | refine aF rfl ?_
    | refine aG rfl ?_
    | refine aA rfl (kQ by' (bX hb)) rfl ?_
    | refine aA rfl (xC w.bad by' hs.bad hb) rfl ?_
    | refine aB rfl ?_ ?_
    | (refine aE rfl ?_;first | refine rb ?_ | refine ri ?_ | refine aZ ?_ ?_ | refine aY ?_)
    | refine aD rfl ?_)
  · exact SQ (p:=Pb w.bad by') (by
      simp only [beq_iff_eq,List.length_map]
      rw [←Vk hk h]
      exact ⟨fun h'=>⟨h,h'⟩,fun h'=>h'.2⟩)
  · exact fD (p:=Pb w.bad by') (fun h'=>h h'.1)
theorem Ji (a b:List Int)(ha:a.length≤1048576)(hb:b.length≤1048576)(hk:KeysM a):FunOk PP W pU iX [uL a,uL b] [bo (decide (a=b))]:=by
  refine KG (aH ?_)
  (repeat' first
    | (refine run_ite rfl (fun h=>?_) (fun h=>?_)<;>(try simp (disch:=omega) only [zB,eqDs,aT,Nat.reduceAdd,aC] at h)<;>(try (exfalso;omega)))
    | refine aF rfl ?_
    | refine aG rfl ?_
    | refine aA rfl (kQ a (bX ha)) rfl ?_
    | refine aA rfl (kQ b (bX hb)) rfl ?_
    | refine aA rfl (xC a b ha hb) rfl ?_
    | refine aB rfl ?_ ?_
    | (refine aE rfl ?_;first | refine rb ?_ | refine ri ?_ | refine aZ ?_ ?_ | refine aY ?_)
    | refine aD rfl ?_)
  all_goals first
    | exact SQ (p:=a=b) (by
        simp only [beq_iff_eq,List.length_map]
        exact Mk hk (by assumption) (by omega))
    | exact fD (p:=a=b) (fun h'=>h (h'▸hk))
    | exact fD (p:=a=b) (fun h'=>h (by rw [←h']))
    | exact absurd hk h
def Gp (w:Wo)(e:Vt):Prop:=if e.kind=5 then aA6 w e.root else aA7 w e.ix
theorem aBd (w:Wo)(e:Vt)(hs:BdW w)(hr:BdR e.root)(hx:BdX e.ix)(hk:KeysM w.bad)(h1:RtsM w.bad w.roots)(h2:XsM w.now w.ixs):FunOk PP W CV tN [sO w,yR e] [bo (decide (Gp w e))]:=by
  refine RF (aH ?_)
  have hl1:=hs.roots.1
  have hb1:=Ex hs.roots.2
  have hl2:=hs.ixs.1
  have hb2:=Ey hs.ixs.2
  have hkr:=Pj h1
  have hkg:=Yg h1
  have hX:=Yh h2
  have hXg:=aBc h2
  (repeat' first
    | (refine run_ite rfl (fun h=>?_) (fun h=>?_)<;>(try simp (disch:=omega) only [zB,eqDs,aT,Nat.reduceAdd,aC] at h)<;>(try (exfalso;omega)))
    | refine aF rfl ?_
    | refine aG rfl ?_
    | refine aB rfl ?_ ?_
    | (refine aE rfl ?_;first | refine rb ?_ | refine ri ?_ | refine aZ ?_ ?_ | refine aY ?_)
    | refine aD rfl ?_)
  · rw [Gp,if_pos h]
    refine aO rfl (fun i:Int=>0≤i∧i≤w.roots.length∧mC i (fun j=>¬(uH (ix w.roots j)=uH e.root∧(ix w.roots j).sigs=e.root.sigs))) (fun i=>[(5,.val (i64 i)),(2,.val (sO w)),(3,.val (yR e))]) (fun i=>(w.roots.length - i).toNat) 0 ⟨by omega,by omega,bB _⟩ ⟨rfl,rfl,rfl,trivial⟩ rfl ?_
    rintro i E ⟨h0,hN,hP⟩
    (repeat' first
    | (refine run_ite rfl (fun h=>?_) (fun h=>?_)<;>(try simp (disch:=omega) only [zB,eqDs,aT,Nat.reduceAdd,aC] at h)<;>(try (exfalso;omega)))
    | refine aF rfl ?_
    | refine aG rfl ?_
    | refine cE rfl (ED (uH (ix w.roots i)) (uH e.root) (hb1 i).1 hr.1) rfl ?_
    | refine cE rfl (Ji (ix w.roots i).sigs e.root.sigs (hb1 i).2 hr.2 (hkg _ (dO h0 (by assumption)))) rfl ?_
    | refine aA rfl (UE w e.root.sigs hs hr.2 hk) rfl ?_
    | (refine aN rfl (Exists.intro (i+1) ⟨by omega,⟨by omega,by omega,bH hP ?_⟩,aP (aC _ (by omega)),rfl,rfl,trivial⟩))
    | refine aB rfl ?_ ?_
    | (refine aE rfl ?_;first | refine rb ?_ | refine ri ?_ | refine aZ ?_ ?_ | refine aY ?_)
    | refine aD rfl ?_)
    all_goals first
      | exact tD (p:=aA6 w e.root) (.inl ⟨_,dO h0 (by assumption),(EC (hkr _ (dO h0 (by assumption)))).1 (by assumption),by assumption⟩)
      | exact fun e'=>h e'.2
      | exact fun e'=>h ((EC (hkr _ (dO h0 (by assumption)))).2 e'.1)
      | exact decide_eq_decide.2 ⟨fun h'=> .inr h',fun h'=>h'.resolve_left (fun ⟨x,hx',e1⟩=>by
          obtain ⟨j,j0,j1,rfl⟩:=hH hx'
          exact hP j j0 (by omega) e1)⟩
  · rw [Gp,if_neg h]
    refine aO rfl (fun i:Int=>0≤i∧i≤w.ixs.length∧mC i (fun j=>¬(yQ (ix w.ixs j)=yQ e.ix∧(ix w.ixs j).sigs=e.ix.sigs))) (fun i=>[(6,.val (i64 i)),(2,.val (sO w)),(3,.val (yR e))]) (fun i=>(w.ixs.length - i).toNat) 0 ⟨by omega,by omega,bB _⟩ ⟨rfl,rfl,rfl,trivial⟩ rfl ?_
    rintro i E ⟨h0,hN,hP⟩
    (repeat' first
    | (refine run_ite rfl (fun h=>?_) (fun h=>?_)<;>(try simp (disch:=omega) only [zB,eqDs,aT,Nat.reduceAdd,aC] at h)<;>(try (exfalso;omega)))
    | refine aF rfl ?_
    | refine aG rfl ?_
    | refine cE rfl (rD (yQ e.ix) (bX hx.1)) rfl ?_
    | refine cE rfl (By (yQ (ix w.ixs i)) (yQ e.ix) (bX (hb2 i).1) (bX hx.1)) rfl ?_
    | refine cE rfl (Ji (ix w.ixs i).sigs e.ix.sigs (hb2 i).2 hx.2 (hXg _ (dO h0 (by assumption)))) rfl ?_
    | refine aA rfl (UE w e.ix.sigs hs hx.2 hk) rfl ?_
    | (refine aN rfl (Exists.intro (i+1) ⟨by omega,⟨by omega,by omega,bH hP ?_⟩,aP (aC _ (by omega)),rfl,rfl,trivial⟩))
    | refine aB rfl ?_ ?_
    | (refine aE rfl ?_;first | refine rb ?_ | refine ri ?_ | refine aZ ?_ ?_ | refine aY ?_)
    | refine aD rfl ?_)
    all_goals first
      | exact tD (p:=aA7 w e.ix) (.inl ⟨_,dO h0 (by assumption),(BQ (hX _ (dO h0 (by assumption))) (by assumption)).1 (by assumption),by assumption⟩)
      | exact fun e'=>h e'.2
      | exact fun e'=>h ((BQ (hX _ (dO h0 (by assumption))) (by assumption)).2 e'.1)
      | exact fun e'=>h (e'.1▸hX _ (dO h0 (by assumption)))
      | exact decide_eq_decide.2 ⟨fun h'=> .inr h',fun h'=>h'.resolve_left (fun ⟨x,hx',e1⟩=>by
          obtain ⟨j,j0,j1,rfl⟩:=hH hx'
          exact hP j j0 (by omega) e1)⟩
def LX (w:Wo)(e:Vt):Prop:=WoM w∧(e.kind=5∨e.kind=6)∧Gp w e
theorem Mo (w:Wo)(e:Vt)(hs:BdW w)(hr:BdR e.root)(hx:BdX e.ix):FunOk PP W xV nY [sO w,yR e] [bo (decide (LX w e))]:=by
  refine MH (aH ?_)
  by_cases hw:WoM w
  · (repeat' first
    | (refine run_ite rfl (fun h=>?_) (fun h=>?_)<;>(try simp (disch:=omega) only [zB,eqDs,aT,Nat.reduceAdd,aC] at h)<;>(try (exfalso;omega)))
    | refine aF rfl ?_
    | refine aG rfl ?_
    | refine aA rfl (GJ w hs) rfl ?_
    | refine aA rfl (aBd w e hs hr hx hw.bad hw.roots hw.ixs) rfl ?_
    | refine aB rfl ?_ ?_
    | (refine aE rfl ?_;first | refine rb ?_ | refine ri ?_ | refine aZ ?_ ?_ | refine aY ?_)
    | refine aD rfl ?_)
    all_goals first
      | exact absurd hw h
      | exact decide_eq_decide.2 ⟨fun h'=>⟨hw,by omega,h'⟩,fun h'=>h'.2.2⟩
      | exact fD (p:=LX w e) (fun h'=>by have:=h'.2.1;omega)
  · (repeat' first
    | (refine run_ite rfl (fun h=>?_) (fun h=>?_)<;>(try simp (disch:=omega) only [zB,eqDs,aT,Nat.reduceAdd,aC] at h)<;>(try (exfalso;omega)))
    | refine aF rfl ?_
    | refine aG rfl ?_
    | refine aA rfl (GJ w hs) rfl ?_
    | refine aB rfl ?_ ?_
    | (refine aE rfl ?_;first | refine rb ?_ | refine ri ?_ | refine aZ ?_ ?_ | refine aY ?_)
    | refine aD rfl ?_)
    all_goals first
      | exact absurd h hw
      | exact fD (p:=LX w e) (fun h'=>hw h'.1)
      | exact absurd (show WoM w by assumption) hw
end
section
open Classical
variable {W:Wld}

theorem uK (r:Rt)(by':List Int)(ha:r.keys.length≤1048576)(hb:by'.length≤1048576):FunOk PP W jQ gC [LQ r,uL by'] [bo (decide (WC r by'))]:=by
  refine Iw (aH ?_)
  (repeat' first
    | (refine run_ite rfl (fun h=>?_) (fun h=>?_)<;>(try simp (disch:=omega) only [zB,eqDs,aT,Nat.reduceAdd,aC] at h)<;>(try (exfalso;omega)))
    | refine aF rfl ?_
    | refine aG rfl ?_
    | refine aA rfl (Jc r (bX ha)) rfl ?_
    | refine aA rfl (mR by' (bX hb)) rfl ?_
    | refine aA rfl (Dx r.keys by' ha hb) rfl ?_
    | refine aB rfl ?_ ?_
    | (refine aE rfl ?_;first | refine rb ?_ | refine ri ?_ | refine aZ ?_ ?_ | refine aY ?_)
    | refine aD rfl ?_)
  all_goals first
    | exact fD (p:=WC r by') (fun h'=>by obtain ⟨q1,q2,q3⟩:=h';first | omega | contradiction)
    | (have hr:Ja r:=by assumption
       have hb:KeysM by':=by assumption
       exact SQ (p:=WC r by') (by rw [if_pos ⟨hr.2.1,hb⟩,decide_eq_true_eq];exact ⟨fun h'=>⟨hr,hb,h'⟩,fun h'=>h'.2.2⟩))
theorem Mp (r:Rt)(s:SR)(ha:r.keys.length≤1048576)(hs:BdR s):FunOk PP W yE oC [LQ r,eSR s] [bo (decide (Jf r s))]:=by
  refine MP (aH ?_)
  (repeat' first
    | (refine run_ite rfl (fun h=>?_) (fun h=>?_)<;>(try simp (disch:=omega) only [zB,eqDs,aT,Nat.reduceAdd,aC] at h)<;>(try (exfalso;omega)))
    | refine aF rfl ?_
    | refine aG rfl ?_
    | refine aA rfl (uK r s.sigs ha hs.2) rfl ?_
    | refine aA rfl (uK (uH s) s.sigs hs.1 hs.2) rfl ?_
    | refine aB rfl ?_ ?_
    | (refine aE rfl ?_;first | refine rb ?_ | refine ri ?_ | refine aZ ?_ ?_ | refine aY ?_)
    | refine aD rfl ?_)
  all_goals first
    | exact fD (p:=Jf r s) (fun h'=>by obtain ⟨q1,q2,q3⟩:=h';contradiction)
    | (have hr:WC r s.sigs:=by assumption
       have e:=aCh hr.1.1
       exact SQ (p:=Jf r s) (by rw [e,beq_iff_eq];exact ⟨fun h'=>⟨hr,by assumption,h'⟩,fun h'=>h'.2.2⟩))
theorem Vn (w:Wo)(hs:BdW w)(hk:KeysM w.bad):FunOk PP W nT gN [sO w] [bo (decide (RtsM w.bad w.roots))]:=by
  refine Df (aH ?_)
  have hl:=hs.roots.1
  have hb:=Ex hs.roots.2
  (repeat' first
    | (refine run_ite rfl (fun h=>?_) (fun h=>?_)<;>(try simp (disch:=omega) only [zB,eqDs,aT,Nat.reduceAdd,aC] at h)<;>(try (exfalso;omega)))
    | refine aF rfl ?_
    | refine aG rfl ?_
    | refine aB rfl ?_ ?_
    | (refine aE rfl ?_;first | refine rb ?_ | refine ri ?_ | refine aZ ?_ ?_ | refine aY ?_)
    | refine aD rfl ?_)
  refine aO rfl (fun i:Int=>0≤i∧i≤w.roots.length∧mC i (aDz w.bad w.roots)) (fun i=>[(8,.val (i64 i)),(6,.val (Xk w.roots)),(7,.val (i64 (w.roots.map eSR).length)),(1,.val (sO w))]) (fun i=>(w.roots.length - i).toNat) 0 ⟨by omega,by omega,bB _⟩ ⟨rfl,rfl,rfl,rfl,trivial⟩ rfl ?_
  rintro i e ⟨h0,hN,hP⟩
  (repeat' first
    | (refine run_ite rfl (fun h=>?_) (fun h=>?_)<;>(try simp (disch:=omega) only [zB,eqDs,aT,Nat.reduceAdd,aC] at h)<;>(try (exfalso;omega)))
    | refine aF rfl ?_
    | refine aG rfl ?_
    | refine cE rfl (uK (uH (ix w.roots i)) (ix w.roots i).sigs (hb i).1 (hb i).2) rfl ?_
    | refine cE rfl (YT (uH (ix w.roots i)) w.bad (hb i).1 hs.bad) rfl ?_
    | refine cE rfl (Mp (uH (ix w.roots (i - 1))) (ix w.roots i) (hb _).1 (hb i)) rfl ?_
    | (refine aN rfl (Exists.intro (i+1) ⟨by omega,⟨by omega,by omega,bH hP ?_⟩,aP (aC _ (by omega)),rfl,rfl,rfl,trivial⟩))
    | refine aB rfl ?_ ?_
    | (refine aE rfl ?_;first | refine rb ?_ | refine ri ?_ | refine aZ ?_ ?_ | refine aY ?_)
    | refine aD rfl ?_)
  all_goals first
    | exact SQ (p:=RtsM w.bad w.roots) (by
        simp only [decide_eq_true_eq,List.length_map]
        exact ⟨fun h'=>⟨cW hP (by omega),by omega⟩,fun h'=>by have:=h'.2;omega⟩)
    | exact fD (p:=RtsM w.bad w.roots) (fun h'=>by
        obtain ⟨q1,q2,q3,q4⟩:=h'.1 i h0 (by assumption)
        first
        | contradiction
        | exact h (q4 (by assumption))
        | (rw [if_pos ⟨q1.1.2.1,hk⟩] at h;exact h q3))
    | (have q1:WC (uH (ix w.roots i)) (ix w.roots i).sigs:=by assumption
       refine ⟨q1,by assumption,?_,fun _=>by first | assumption | omega⟩
       have hsf:(if KeysM (uH (ix w.roots i)).keys∧KeysM w.bad then iR (uH (ix w.roots i)).keys w.bad else -1)<(uH (ix w.roots i)).need:=by assumption
       rw [if_pos ⟨q1.1.2.1,hk⟩] at hsf
       exact hsf)
theorem Pl (w:Wo)(hs:BdW w)(hn:0≤w.now∧w.now≤60):FunOk PP W lM fH [sO w] [bo (decide (XsM w.now w.ixs))]:=by
  refine BY (aH ?_)
  have hl:=hs.ixs.1
  have hb:=Ey hs.ixs.2
  (repeat' first
    | (refine run_ite rfl (fun h=>?_) (fun h=>?_)<;>(try simp (disch:=omega) only [zB,eqDs,aT,Nat.reduceAdd,aC] at h)<;>(try (exfalso;omega)))
    | refine aF rfl ?_
    | refine aG rfl ?_
    | refine aB rfl ?_ ?_
    | (refine aE rfl ?_;first | refine rb ?_ | refine ri ?_ | refine aZ ?_ ?_ | refine aY ?_)
    | refine aD rfl ?_)
  refine aO rfl (fun i:Int=>0≤i∧i≤w.ixs.length∧mC i (XAt w.now w.ixs)) (fun i=>[(8,.val (i64 i)),(6,.val (aGc w.ixs)),(7,.val (i64 (w.ixs.map eSX).length)),(1,.val (sO w))]) (fun i=>(w.ixs.length - i).toNat) 0 ⟨by omega,by omega,bB _⟩ ⟨rfl,rfl,rfl,rfl,trivial⟩ rfl ?_
  rintro i e ⟨h0,hN,hP⟩
  (repeat' first
    | (refine run_ite rfl (fun h=>?_) (fun h=>?_)<;>(try simp (disch:=omega) only [zB,eqDs,aT,Nat.reduceAdd,aC] at h)<;>(try (exfalso;omega)))
    | refine aF rfl ?_
    | refine aG rfl ?_
    | refine cE rfl (GH (yQ (ix w.ixs i)) (bX (hb i).1)) rfl ?_
    | refine cE rfl (mR (ix w.ixs i).sigs (bX (hb i).2)) rfl ?_
    | (refine aN rfl (Exists.intro (i+1) ⟨by omega,⟨by omega,by omega,bH hP ?_⟩,aP (aC _ (by omega)),rfl,rfl,rfl,trivial⟩))
    | refine aB rfl ?_ ?_
    | (refine aE rfl ?_;first | refine rb ?_ | refine ri ?_ | refine aZ ?_ ?_ | refine aY ?_)
    | refine aD rfl ?_)
  all_goals first
    | exact fD (p:=XsM w.now w.ixs) (fun h'=>by
        obtain ⟨q1,q2,q3,q4⟩:=h' i h0 (by assumption)
        first | omega | contradiction)
    | exact tD (p:=XsM w.now w.ixs) (cW hP (by omega))
    | exact ⟨by assumption,by assumption,by assumption,by omega⟩

/-! What is the same. -/
theorem UF {a b:P2}(h1:a.a=b.a)(h2:a.b=b.b):a=b:=by cases a;cases b;simp_all
theorem aBe (a b:List P2)(ha:a.length≤lim):FunOk PP W rN iN [jI a,jI b] [bo (decide (a=b))]:=by
  refine Gi (aH ?_)
  unfold lim at ha
  (repeat' first
    | (refine run_ite rfl (fun h=>?_) (fun h=>?_)<;>(try simp (disch:=omega) only [zB,eqDs,aT,Nat.reduceAdd,aC] at h)<;>(try (exfalso;omega)))
    | refine aF rfl ?_
    | refine aG rfl ?_
    | refine aB rfl ?_ ?_
    | (refine aE rfl ?_;first | refine rb ?_ | refine ri ?_ | refine aZ ?_ ?_ | refine aY ?_)
    | refine aD rfl ?_)
  · exact fD (fun h'=>by simp_all)
  have hn:a.length=b.length:=by omega
  clear h
  refine aO rfl (fun i:Int=>0≤i∧i≤a.length∧mC i (fun j=>ix a j=ix b j)) (fun i=>[(13,.val (i64 i)),(0,.val (jI a)),(1,.val (jI b)),(12,.val (i64 (a.map eP2).length))]) (fun i=>(a.length - i).toNat) 0 ⟨by omega,by omega,bB _⟩ ⟨rfl,rfl,rfl,rfl,trivial⟩ rfl ?_
  rintro i e ⟨h0,hN,hP⟩
  (repeat' first
    | (refine run_ite rfl (fun h=>?_) (fun h=>?_)<;>(try simp (disch:=omega) only [zB,eqDs,aT,Nat.reduceAdd,aC] at h)<;>(try (exfalso;omega)))
    | refine aF rfl ?_
    | refine aG rfl ?_
    | (refine aN rfl (Exists.intro (i+1) ⟨by omega,⟨by omega,by omega,bH hP ?_⟩,aP (aC _ (by omega)),rfl,rfl,rfl,trivial⟩))
    | refine aB rfl ?_ ?_
    | (refine aE rfl ?_;first | refine rb ?_ | refine ri ?_ | refine aZ ?_ ?_ | refine aY ?_)
    | refine aD rfl ?_)
  · exact fD (fun h'=>by subst h';exact h rfl rfl)
  · exact UF h.1 h.2
  · exact tD (lL hn (cW hP (by omega)))
theorem aBf (a b:List P2)(ha:a.length≤lim):FunOk PP W tG kG [jI a,jI b] [bo (decide (a=b))]:=by
  refine JN (aH ?_)
  unfold lim at ha
  (repeat' first
    | (refine run_ite rfl (fun h=>?_) (fun h=>?_)<;>(try simp (disch:=omega) only [zB,eqDs,aT,Nat.reduceAdd,aC] at h)<;>(try (exfalso;omega)))
    | refine aF rfl ?_
    | refine aG rfl ?_
    | refine aB rfl ?_ ?_
    | (refine aE rfl ?_;first | refine rb ?_ | refine ri ?_ | refine aZ ?_ ?_ | refine aY ?_)
    | refine aD rfl ?_)
  · exact fD (fun h'=>by simp_all)
  have hn:a.length=b.length:=by omega
  clear h
  refine aO rfl (fun i:Int=>0≤i∧i≤a.length∧mC i (fun j=>ix a j=ix b j)) (fun i=>[(13,.val (i64 i)),(0,.val (jI a)),(1,.val (jI b)),(12,.val (i64 (a.map eP2).length))]) (fun i=>(a.length - i).toNat) 0 ⟨by omega,by omega,bB _⟩ ⟨rfl,rfl,rfl,rfl,trivial⟩ rfl ?_
  rintro i e ⟨h0,hN,hP⟩
  (repeat' first
    | (refine run_ite rfl (fun h=>?_) (fun h=>?_)<;>(try simp (disch:=omega) only [zB,eqDs,aT,Nat.reduceAdd,aC] at h)<;>(try (exfalso;omega)))
    | refine aF rfl ?_
    | refine aG rfl ?_
    | (refine aN rfl (Exists.intro (i+1) ⟨by omega,⟨by omega,by omega,bH hP ?_⟩,aP (aC _ (by omega)),rfl,rfl,rfl,trivial⟩))
    | refine aB rfl ?_ ?_
    | (refine aE rfl ?_;first | refine rb ?_ | refine ri ?_ | refine aZ ?_ ?_ | refine aY ?_)
    | refine aD rfl ?_)
  · exact fD (fun h'=>by subst h';exact h rfl rfl)
  · exact UF h.1 h.2
  · exact tD (lL hn (cW hP (by omega)))
theorem aBg {a b:Rt}(h1:a.num=b.num)(h2:a.need=b.need)(h3:a.keys=b.keys):a=b:=by cases a;cases b;simp_all
theorem aBh {a b:Ix}(h1:a.num=b.num)(h2:a.till=b.till)(h3:a.ms=b.ms):a=b:=by cases a;cases b;simp_all
theorem aBi {a b:Pk}(h1:a.name=b.name)(h2:a.ver=b.ver)(h3:a.files=b.files)(h4:a.deps=b.deps):a=b:=by cases a;cases b;simp_all
theorem GK (a b:Rt)(ha:a.keys.length≤lim)(hb:b.keys.length≤lim):FunOk PP W pT iW [LQ a,LQ b] [bo (decide (a=b))]:=by
  refine KE (aH ?_)
  (repeat' first
    | (refine run_ite rfl (fun h=>?_) (fun h=>?_)<;>(try simp (disch:=omega) only [zB,eqDs,aT,Nat.reduceAdd,aC] at h)<;>(try (exfalso;omega)))
    | refine aF rfl ?_
    | refine aG rfl ?_
    | refine aA rfl (Cq a.keys b.keys ha hb) rfl ?_
    | refine aB rfl ?_ ?_
    | (refine aE rfl ?_;first | refine rb ?_ | refine ri ?_ | refine aZ ?_ ?_ | refine aY ?_)
    | refine aD rfl ?_)
  all_goals first
    | exact decide_eq_decide.2 ⟨fun h'=>aBg (by assumption) (by assumption) h',fun h'=>by rw [h']⟩
    | exact fD (p:=a=b) (fun h'=>h (by rw [h']))
theorem EE (x y:Ix)(hx:x.ms.length≤lim):FunOk PP W gW eQ [Mi x,Mi y] [bo (decide (x=y))]:=by
  refine Ao (aH ?_)
  (repeat' first
    | (refine run_ite rfl (fun h=>?_) (fun h=>?_)<;>(try simp (disch:=omega) only [zB,eqDs,aT,Nat.reduceAdd,aC] at h)<;>(try (exfalso;omega)))
    | refine aF rfl ?_
    | refine aG rfl ?_
    | refine aA rfl (Tt x.ms y.ms hx) rfl ?_
    | refine aB rfl ?_ ?_
    | (refine aE rfl ?_;first | refine rb ?_ | refine ri ?_ | refine aZ ?_ ?_ | refine aY ?_)
    | refine aD rfl ?_)
  all_goals first
    | exact decide_eq_decide.2 ⟨fun h'=>aBh (by assumption) (by assumption) h',fun h'=>by rw [h']⟩
    | exact fD (p:=x=y) (fun h'=>h (by rw [h']))
theorem SV (p q:Pk)(hp:SmP p):FunOk PP W fO oF [ePk p,ePk q] [bo (decide (p=q))]:=by
  refine MT (aH ?_)
  (repeat' first
    | (refine run_ite rfl (fun h=>?_) (fun h=>?_)<;>(try simp (disch:=omega) only [zB,eqDs,aT,Nat.reduceAdd,aC] at h)<;>(try (exfalso;omega)))
    | refine aF rfl ?_
    | refine aG rfl ?_
    | refine aA rfl (aBe p.files q.files hp.1) rfl ?_
    | refine aA rfl (aBf p.deps q.deps hp.2) rfl ?_
    | refine aB rfl ?_ ?_
    | (refine aE rfl ?_;first | refine rb ?_ | refine ri ?_ | refine aZ ?_ ?_ | refine aY ?_)
    | refine aD rfl ?_)
  all_goals first
    | exact decide_eq_decide.2 ⟨fun h'=>aBi (by assumption) (by assumption) (by assumption) h',fun h'=>by rw [h']⟩
    | exact fD (p:=p=q) (fun h'=>h (by rw [h']))

/-! What was published. -/
theorem aBj (w:Wo)(s:SR)(hs:BdW w)(hr:BdR s):FunOk PP W bT eF [eSR s,sO w] [bo (decide (uH s=w.tr.r))]:=by
  refine zJ (aH ?_)
  (repeat' first
    | (refine run_ite rfl (fun h=>?_) (fun h=>?_)<;>(try simp (disch:=omega) only [zB,eqDs,aT,Nat.reduceAdd,aC] at h)<;>(try (exfalso;omega)))
    | refine aF rfl ?_
    | refine aG rfl ?_
    | refine aA rfl (GK (uH s) w.tr.r (bX hr.1) (bX hs.keys)) rfl ?_
    | refine aB rfl ?_ ?_
    | (refine aE rfl ?_;first | refine rb ?_ | refine ri ?_ | refine aZ ?_ ?_ | refine aY ?_)
    | refine aD rfl ?_)
  rfl
theorem aBk (w:Wo)(s:SX)(hr:BdX s):FunOk PP W bU eG [eSX s,sO w] [bo (decide (yQ s=w.tr.x))]:=by
  refine zL (aH ?_)
  (repeat' first
    | (refine run_ite rfl (fun h=>?_) (fun h=>?_)<;>(try simp (disch:=omega) only [zB,eqDs,aT,Nat.reduceAdd,aC] at h)<;>(try (exfalso;omega)))
    | refine aF rfl ?_
    | refine aG rfl ?_
    | refine aA rfl (EE (yQ s) w.tr.x (bX hr.1)) rfl ?_
    | refine aB rfl ?_ ?_
    | (refine aE rfl ?_;first | refine rb ?_ | refine ri ?_ | refine aZ ?_ ?_ | refine aY ?_)
    | refine aD rfl ?_)
  rfl
theorem SW (p:Pk)(l:List Pk)(hl:l.length≤lim)(hp:SmP p):FunOk PP W cU cM [[.sl (l.map ePk)],[.fn fO [(true,ePk p)] []]] [i64 (cF (fun q=>p=q) l l.length 0)]:=by
  refine rC (aH ?_)
  unfold lim at hl
  refine aO rfl (fun i:Int=>0≤i∧i≤l.length∧cF (fun q=>p=q) l l.length 0=cF (fun q=>p=q) l (l.length - i).toNat i) (fun i=>[(8,.val (i64 i)),(0,.val [.sl (l.map ePk)]),(1,.val [.fn fO [(true,ePk p)] []]),(7,.val (i64 (l.map ePk).length))]) (fun i=>(l.length - i).toNat) 0 ⟨by omega,by omega,by simp⟩ ⟨rfl,rfl,rfl,rfl,trivial⟩ rfl ?_
  rintro i e ⟨h0,hN,hP⟩
  (repeat' first
    | (refine run_ite rfl (fun h=>?_) (fun h=>?_)<;>(try simp (disch:=omega) only [zB,eqDs,aT,Nat.reduceAdd,aC] at h)<;>(try (exfalso;omega)))
    | refine aF rfl ?_
    | refine aG rfl ?_
    | (refine lT (ins':=[ePk (ix l i)]) rfl (SV p (ix l i) hp) (by simp (disch:=omega) only [zB,eqDs,aT,Nat.reduceAdd,aC]) rfl ?_)
    | (refine aN rfl (Exists.intro (i+1) ⟨by omega,⟨by omega,by omega,?_⟩,aP (aC _ (by omega)),rfl,rfl,rfl,trivial⟩))
    | refine aB rfl ?_ ?_
    | (refine aE rfl ?_;first | refine rb ?_ | refine ri ?_ | refine aZ ?_ ?_ | refine aY ?_)
    | refine aD rfl ?_)
  · rw [hP,show ((l.length:Int) - i).toNat=((l.length:Int) - (i+1)).toNat+1 by omega,cF,if_pos h]
  · rw [hP,show ((l.length:Int) - i).toNat=((l.length:Int) - (i+1)).toNat+1 by omega,cF,if_neg h]
  · rw [hP,show ((l.length:Int) - i).toNat=0 by omega,cF]
theorem SY (p:Pk)(l:List Pk)(hl:l.length≤lim)(hp:SmP p):FunOk PP W bW bZ [[.sl (l.map ePk)],[.fn fO [(true,ePk p)] []]] [bo (decide (∃ x∈l,(fun q=>p=q) x))]:=by
  refine oK (aH ?_)
  (repeat' first
    | (refine run_ite rfl (fun h=>?_) (fun h=>?_)<;>(try simp (disch:=omega) only [zB,eqDs,aT,Nat.reduceAdd,aC] at h)<;>(try (exfalso;omega)))
    | refine aF rfl ?_
    | refine aG rfl ?_
    | refine aA rfl (SW p l hl hp) rfl ?_
    | refine aB rfl ?_ ?_
    | (refine aE rfl ?_;first | refine rb ?_ | refine ri ?_ | refine aZ ?_ ?_ | refine aY ?_)
    | refine aD rfl ?_)
  congr 1
  simp only [ge_iff_le,eq_iff_iff]
  exact iQ _ _
theorem aBl (w:Wo)(p:Pk)(hs:BdW w)(hp:SmP p):FunOk PP W bV eH [ePk p,sO w] [bo (decide (p∉w.pkgs))]:=by
  refine zN (aH ?_)
  (repeat' first
    | (refine run_ite rfl (fun h=>?_) (fun h=>?_)<;>(try simp (disch:=omega) only [zB,eqDs,aT,Nat.reduceAdd,aC] at h)<;>(try (exfalso;omega)))
    | refine aF rfl ?_
    | refine aG rfl ?_
    | refine aA rfl (SY p w.pkgs hs.pkgs.1.1 hp) rfl ?_
    | refine aB rfl ?_ ?_
    | (refine aE rfl ?_;first | refine rb ?_ | refine ri ?_ | refine aZ ?_ ?_ | refine aY ?_)
    | refine aD rfl ?_)
  exact SQ (p:=p∉w.pkgs) (by
    rw [Bool.not_eq_true',decide_eq_false_iff_not]
    exact not_congr ⟨fun ⟨x,h1,h2⟩=>h2▸h1,fun h=>⟨p,h,rfl⟩⟩)
theorem SZ (w:Wo)(l:List SR)(hl:l.length≤lim)(hs:BdW w)(hr:∀ i,BdR (ix l i)):FunOk PP W dD eA [[.sl (l.map eSR)],[.fn bT [] [sO w]]] [i64 (cF (fun s=>uH s=w.tr.r) l l.length 0)]:=by
  refine yN (aH ?_)
  unfold lim at hl
  refine aO rfl (fun i:Int=>0≤i∧i≤l.length∧cF (fun s=>uH s=w.tr.r) l l.length 0=cF (fun s=>uH s=w.tr.r) l (l.length - i).toNat i) (fun i=>[(8,.val (i64 i)),(0,.val [.sl (l.map eSR)]),(1,.val [.fn bT [] [sO w]]),(7,.val (i64 (l.map eSR).length))]) (fun i=>(l.length - i).toNat) 0 ⟨by omega,by omega,by simp⟩ ⟨rfl,rfl,rfl,rfl,trivial⟩ rfl ?_
  rintro i e ⟨h0,hN,hP⟩
  (repeat' first
    | (refine run_ite rfl (fun h=>?_) (fun h=>?_)<;>(try simp (disch:=omega) only [zB,eqDs,aT,Nat.reduceAdd,aC] at h)<;>(try (exfalso;omega)))
    | refine aF rfl ?_
    | refine aG rfl ?_
    | (refine lT (ins':=[eSR (ix l i)]) rfl (aBj w (ix l i) hs (hr i)) (by simp (disch:=omega) only [zB,eqDs,aT,Nat.reduceAdd,aC]) rfl ?_)
    | (refine aN rfl (Exists.intro (i+1) ⟨by omega,⟨by omega,by omega,?_⟩,aP (aC _ (by omega)),rfl,rfl,rfl,trivial⟩))
    | refine aB rfl ?_ ?_
    | (refine aE rfl ?_;first | refine rb ?_ | refine ri ?_ | refine aZ ?_ ?_ | refine aY ?_)
    | refine aD rfl ?_)
  · rw [hP,show ((l.length:Int) - i).toNat=((l.length:Int) - (i+1)).toNat+1 by omega,cF,if_pos h]
  · rw [hP,show ((l.length:Int) - i).toNat=((l.length:Int) - (i+1)).toNat+1 by omega,cF,if_neg h]
  · rw [hP,show ((l.length:Int) - i).toNat=0 by omega,cF]
theorem Sa (w:Wo)(l:List SR)(hl:l.length≤lim)(hs:BdW w)(hr:∀ i,BdR (ix l i)):FunOk PP W cT dF [[.sl (l.map eSR)],[.fn bT [] [sO w]]] [bo (decide (∃ x∈l,(fun s=>uH s=w.tr.r) x))]:=by
  refine uN (aH ?_)
  (repeat' first
    | (refine run_ite rfl (fun h=>?_) (fun h=>?_)<;>(try simp (disch:=omega) only [zB,eqDs,aT,Nat.reduceAdd,aC] at h)<;>(try (exfalso;omega)))
    | refine aF rfl ?_
    | refine aG rfl ?_
    | refine aA rfl (SZ w l hl hs hr) rfl ?_
    | refine aB rfl ?_ ?_
    | (refine aE rfl ?_;first | refine rb ?_ | refine ri ?_ | refine aZ ?_ ?_ | refine aY ?_)
    | refine aD rfl ?_)
  congr 1
  simp only [ge_iff_le,eq_iff_iff]
  exact iQ _ _
theorem Sb (w:Wo)(l:List SX)(hl:l.length≤lim)(hr:∀ i,BdX (ix l i)):FunOk PP W cZ dR [[.sl (l.map eSX)],[.fn bU [] [sO w]]] [i64 (cF (fun s=>yQ s=w.tr.x) l l.length 0)]:=by
  refine wW (aH ?_)
  unfold lim at hl
  refine aO rfl (fun i:Int=>0≤i∧i≤l.length∧cF (fun s=>yQ s=w.tr.x) l l.length 0=cF (fun s=>yQ s=w.tr.x) l (l.length - i).toNat i) (fun i=>[(8,.val (i64 i)),(0,.val [.sl (l.map eSX)]),(1,.val [.fn bU [] [sO w]]),(7,.val (i64 (l.map eSX).length))]) (fun i=>(l.length - i).toNat) 0 ⟨by omega,by omega,by simp⟩ ⟨rfl,rfl,rfl,rfl,trivial⟩ rfl ?_
  rintro i e ⟨h0,hN,hP⟩
  (repeat' first
    | (refine run_ite rfl (fun h=>?_) (fun h=>?_)<;>(try simp (disch:=omega) only [zB,eqDs,aT,Nat.reduceAdd,aC] at h)<;>(try (exfalso;omega)))
    | refine aF rfl ?_
    | refine aG rfl ?_
    | (refine lT (ins':=[eSX (ix l i)]) rfl (aBk w (ix l i) (hr i)) (by simp (disch:=omega) only [zB,eqDs,aT,Nat.reduceAdd,aC]) rfl ?_)
    | (refine aN rfl (Exists.intro (i+1) ⟨by omega,⟨by omega,by omega,?_⟩,aP (aC _ (by omega)),rfl,rfl,rfl,trivial⟩))
    | refine aB rfl ?_ ?_
    | (refine aE rfl ?_;first | refine rb ?_ | refine ri ?_ | refine aZ ?_ ?_ | refine aY ?_)
    | refine aD rfl ?_)
  · rw [hP,show ((l.length:Int) - i).toNat=((l.length:Int) - (i+1)).toNat+1 by omega,cF,if_pos h]
  · rw [hP,show ((l.length:Int) - i).toNat=((l.length:Int) - (i+1)).toNat+1 by omega,cF,if_neg h]
  · rw [hP,show ((l.length:Int) - i).toNat=0 by omega,cF]
theorem Sc (w:Wo)(l:List SX)(hl:l.length≤lim)(hr:∀ i,BdX (ix l i)):FunOk PP W cH dB [[.sl (l.map eSX)],[.fn bU [] [sO w]]] [bo (decide (∃ x∈l,(fun s=>yQ s=w.tr.x) x))]:=by
  refine uD (aH ?_)
  (repeat' first
    | (refine run_ite rfl (fun h=>?_) (fun h=>?_)<;>(try simp (disch:=omega) only [zB,eqDs,aT,Nat.reduceAdd,aC] at h)<;>(try (exfalso;omega)))
    | refine aF rfl ?_
    | refine aG rfl ?_
    | refine aA rfl (Sb w l hl hr) rfl ?_
    | refine aB rfl ?_ ?_
    | (refine aE rfl ?_;first | refine rb ?_ | refine ri ?_ | refine aZ ?_ ?_ | refine aY ?_)
    | refine aD rfl ?_)
  congr 1
  simp only [ge_iff_le,eq_iff_iff]
  exact iQ _ _
theorem Sd (w:Wo)(l:List Pk)(hl:l.length≤lim)(hs:BdW w)(hr:∀ i,SmP (ix l i)):FunOk PP W cU bI [[.sl (l.map ePk)],[.fn bV [] [sO w]]] [i64 (cF (fun p=>p∉w.pkgs) l l.length 0)]:=by
  refine kJ (aH ?_)
  unfold lim at hl
  refine aO rfl (fun i:Int=>0≤i∧i≤l.length∧cF (fun p=>p∉w.pkgs) l l.length 0=cF (fun p=>p∉w.pkgs) l (l.length - i).toNat i) (fun i=>[(8,.val (i64 i)),(0,.val [.sl (l.map ePk)]),(1,.val [.fn bV [] [sO w]]),(7,.val (i64 (l.map ePk).length))]) (fun i=>(l.length - i).toNat) 0 ⟨by omega,by omega,by simp⟩ ⟨rfl,rfl,rfl,rfl,trivial⟩ rfl ?_
  rintro i e ⟨h0,hN,hP⟩
  (repeat' first
    | (refine run_ite rfl (fun h=>?_) (fun h=>?_)<;>(try simp (disch:=omega) only [zB,eqDs,aT,Nat.reduceAdd,aC] at h)<;>(try (exfalso;omega)))
    | refine aF rfl ?_
    | refine aG rfl ?_
    | (refine lT (ins':=[ePk (ix l i)]) rfl (aBl w (ix l i) hs (hr i)) (by simp (disch:=omega) only [zB,eqDs,aT,Nat.reduceAdd,aC]) rfl ?_)
    | (refine aN rfl (Exists.intro (i+1) ⟨by omega,⟨by omega,by omega,?_⟩,aP (aC _ (by omega)),rfl,rfl,rfl,trivial⟩))
    | refine aB rfl ?_ ?_
    | (refine aE rfl ?_;first | refine rb ?_ | refine ri ?_ | refine aZ ?_ ?_ | refine aY ?_)
    | refine aD rfl ?_)
  · rw [hP,show ((l.length:Int) - i).toNat=((l.length:Int) - (i+1)).toNat+1 by omega,cF,if_pos h]
  · rw [hP,show ((l.length:Int) - i).toNat=((l.length:Int) - (i+1)).toNat+1 by omega,cF,if_neg h]
  · rw [hP,show ((l.length:Int) - i).toNat=0 by omega,cF]
theorem Se (w:Wo)(l:List Pk)(hl:l.length≤lim)(hs:BdW w)(hr:∀ i,SmP (ix l i)):FunOk PP W bW bD [[.sl (l.map ePk)],[.fn bV [] [sO w]]] [bo (decide (∃ x∈l,(fun p=>p∉w.pkgs) x))]:=by
  refine iP (aH ?_)
  (repeat' first
    | (refine run_ite rfl (fun h=>?_) (fun h=>?_)<;>(try simp (disch:=omega) only [zB,eqDs,aT,Nat.reduceAdd,aC] at h)<;>(try (exfalso;omega)))
    | refine aF rfl ?_
    | refine aG rfl ?_
    | refine aA rfl (Sd w l hl hs hr) rfl ?_
    | refine aB rfl ?_ ?_
    | (refine aE rfl ?_;first | refine rb ?_ | refine ri ?_ | refine aZ ?_ ?_ | refine aY ?_)
    | refine aD rfl ?_)
  congr 1
  simp only [ge_iff_le,eq_iff_iff]
  exact iQ _ _

/-! What may be signed so. -/
theorem aBm (w:Wo)(k:Int)(hs:BdW w):FunOk PP W cV fV [i64 k,sO w] [bo (decide (k∉w.bad))]:=by
  refine Ch (aH ?_)
  (repeat' first
    | (refine run_ite rfl (fun h=>?_) (fun h=>?_)<;>(try simp (disch:=omega) only [zB,eqDs,aT,Nat.reduceAdd,aC] at h)<;>(try (exfalso;omega)))
    | refine aF rfl ?_
    | refine aG rfl ?_
    | refine aA rfl (Ts w.bad k (bX hs.bad)) rfl ?_
    | refine aB rfl ?_ ?_
    | (refine aE rfl ?_;first | refine rb ?_ | refine ri ?_ | refine aZ ?_ ?_ | refine aY ?_)
    | refine aD rfl ?_)
  exact SQ (p:=k∉w.bad) (by rw [Bool.not_eq_true',decide_eq_false_iff_not])
theorem Vo (w:Wo)(l:List Int)(hl:l.length≤lim)(hs:BdW w):FunOk PP W eN bR [[.sl (l.map i64)],[.fn cV [] [sO w]]] [i64 (cF (fun k=>k∉w.bad) l l.length 0)]:=by
  refine lZ (aH ?_)
  unfold lim at hl
  refine aO rfl (fun i:Int=>0≤i∧i≤l.length∧cF (fun k=>k∉w.bad) l l.length 0=cF (fun k=>k∉w.bad) l (l.length - i).toNat i) (fun i=>[(8,.val (i64 i)),(0,.val [.sl (l.map i64)]),(1,.val [.fn cV [] [sO w]]),(7,.val (i64 (l.map i64).length))]) (fun i=>(l.length - i).toNat) 0 ⟨by omega,by omega,by simp⟩ ⟨rfl,rfl,rfl,rfl,trivial⟩ rfl ?_
  rintro i e ⟨h0,hN,hP⟩
  (repeat' first
    | (refine run_ite rfl (fun h=>?_) (fun h=>?_)<;>(try simp (disch:=omega) only [zB,eqDs,aT,Nat.reduceAdd,aC] at h)<;>(try (exfalso;omega)))
    | refine aF rfl ?_
    | refine aG rfl ?_
    | (refine lT (ins':=[i64 (ix l i)]) rfl (aBm w (ix l i) hs) (by simp (disch:=omega) only [zB,eqDs,aT,Nat.reduceAdd,aC]) rfl ?_)
    | (refine aN rfl (Exists.intro (i+1) ⟨by omega,⟨by omega,by omega,?_⟩,aP (aC _ (by omega)),rfl,rfl,rfl,trivial⟩))
    | refine aB rfl ?_ ?_
    | (refine aE rfl ?_;first | refine rb ?_ | refine ri ?_ | refine aZ ?_ ?_ | refine aY ?_)
    | refine aD rfl ?_)
  · rw [hP,show ((l.length:Int) - i).toNat=((l.length:Int) - (i+1)).toNat+1 by omega,cF,if_pos h]
  · rw [hP,show ((l.length:Int) - i).toNat=((l.length:Int) - (i+1)).toNat+1 by omega,cF,if_neg h]
  · rw [hP,show ((l.length:Int) - i).toNat=0 by omega,cF]
theorem Vp (w:Wo)(l:List Int)(hl:l.length≤lim)(hs:BdW w):FunOk PP W dK bJ [[.sl (l.map i64)],[.fn cV [] [sO w]]] [bo (decide (∃ x∈l,(fun k=>k∉w.bad) x))]:=by
  refine kL (aH ?_)
  (repeat' first
    | (refine run_ite rfl (fun h=>?_) (fun h=>?_)<;>(try simp (disch:=omega) only [zB,eqDs,aT,Nat.reduceAdd,aC] at h)<;>(try (exfalso;omega)))
    | refine aF rfl ?_
    | refine aG rfl ?_
    | refine aA rfl (Vo w l hl hs) rfl ?_
    | refine aB rfl ?_ ?_
    | (refine aE rfl ?_;first | refine rb ?_ | refine ri ?_ | refine aZ ?_ ?_ | refine aY ?_)
    | refine aD rfl ?_)
  congr 1
  simp only [ge_iff_le,eq_iff_iff]
  exact iQ _ _
theorem LY (w:Wo)(by':List Int)(hs:BdW w)(hb:by'.length≤1048576):FunOk PP W lC fU [sO w,uL by'] [bo (decide (Pb w.bad by'))]:=by
  refine Em (aH ?_)
  (repeat' first
    | (refine run_ite rfl (fun h=>?_) (fun h=>?_)<;>(try simp (disch:=omega) only [zB,eqDs,aT,Nat.reduceAdd,aC] at h)<;>(try (exfalso;omega)))
    | refine aF rfl ?_
    | refine aG rfl ?_
    | refine aA rfl (mR by' (bX hb)) rfl ?_
    | refine aA rfl (Vp w by' (bX hb) hs) rfl ?_
    | refine aB rfl ?_ ?_
    | (refine aE rfl ?_;first | refine rb ?_ | refine ri ?_ | refine aZ ?_ ?_ | refine aY ?_)
    | refine aD rfl ?_)
  · exact SQ (p:=Pb w.bad by') (by
      rw [Bool.not_eq_true',decide_eq_false_iff_not]
      exact ⟨fun h'=>⟨h,fun k hk=>Classical.byContradiction fun hn=>h' ⟨k,hk,hn⟩⟩,fun h' ⟨k,hk,hn⟩=>hn (h'.2 k hk)⟩)
  · exact fD (p:=Pb w.bad by') (fun h'=>h h'.1)
theorem aBn (e:Vt)(s:SR)(hr:BdR s)(he:BdR e.root):FunOk PP W dM iG [eSR s,yR e] [bo (decide (uH s=uH e.root∧s.sigs=e.root.sigs))]:=by
  refine GR (aH ?_)
  (repeat' first
    | (refine run_ite rfl (fun h=>?_) (fun h=>?_)<;>(try simp (disch:=omega) only [zB,eqDs,aT,Nat.reduceAdd,aC] at h)<;>(try (exfalso;omega)))
    | refine aF rfl ?_
    | refine aG rfl ?_
    | refine aA rfl (GK (uH s) (uH e.root) (bX hr.1) (bX he.1)) rfl ?_
    | refine aA rfl (Cq s.sigs e.root.sigs (bX hr.2) (bX he.2)) rfl ?_
    | refine aB rfl ?_ ?_
    | (refine aE rfl ?_;first | refine rb ?_ | refine ri ?_ | refine aZ ?_ ?_ | refine aY ?_)
    | refine aD rfl ?_)
  · exact decide_eq_decide.2 ⟨fun h'=>⟨h,h'⟩,fun h'=>h'.2⟩
  · exact fD (p:=uH s=uH e.root∧s.sigs=e.root.sigs) (fun h'=>h h'.1)
theorem aBo (e:Vt)(s:SX)(hr:BdX s)(he:BdX e.ix):FunOk PP W dN iH [eSX s,yR e] [bo (decide (yQ s=yQ e.ix∧s.sigs=e.ix.sigs))]:=by
  refine GT (aH ?_)
  (repeat' first
    | (refine run_ite rfl (fun h=>?_) (fun h=>?_)<;>(try simp (disch:=omega) only [zB,eqDs,aT,Nat.reduceAdd,aC] at h)<;>(try (exfalso;omega)))
    | refine aF rfl ?_
    | refine aG rfl ?_
    | refine aA rfl (EE (yQ s) (yQ e.ix) (bX hr.1)) rfl ?_
    | refine aA rfl (Cq s.sigs e.ix.sigs (bX hr.2) (bX he.2)) rfl ?_
    | refine aB rfl ?_ ?_
    | (refine aE rfl ?_;first | refine rb ?_ | refine ri ?_ | refine aZ ?_ ?_ | refine aY ?_)
    | refine aD rfl ?_)
  · exact decide_eq_decide.2 ⟨fun h'=>⟨h,h'⟩,fun h'=>h'.2⟩
  · exact fD (p:=yQ s=yQ e.ix∧s.sigs=e.ix.sigs) (fun h'=>h h'.1)
theorem Sg (e:Vt)(l:List SR)(hl:l.length≤lim)(he:BdR e.root)(hr:∀ i,BdR (ix l i)):FunOk PP W dD bO [[.sl (l.map eSR)],[.fn dM [] [yR e]]] [i64 (cF (fun s=>uH s=uH e.root∧s.sigs=e.root.sigs) l l.length 0)]:=by
  refine lR (aH ?_)
  unfold lim at hl
  refine aO rfl (fun i:Int=>0≤i∧i≤l.length∧cF (fun s=>uH s=uH e.root∧s.sigs=e.root.sigs) l l.length 0=cF (fun s=>uH s=uH e.root∧s.sigs=e.root.sigs) l (l.length - i).toNat i) (fun i=>[(8,.val (i64 i)),(0,.val [.sl (l.map eSR)]),(1,.val [.fn dM [] [yR e]]),(7,.val (i64 (l.map eSR).length))]) (fun i=>(l.length - i).toNat) 0 ⟨by omega,by omega,by simp⟩ ⟨rfl,rfl,rfl,rfl,trivial⟩ rfl ?_
  rintro i E ⟨h0,hN,hP⟩
  (repeat' first
    | (refine run_ite rfl (fun h=>?_) (fun h=>?_)<;>(try simp (disch:=omega) only [zB,eqDs,aT,Nat.reduceAdd,aC] at h)<;>(try (exfalso;omega)))
    | refine aF rfl ?_
    | refine aG rfl ?_
    | (refine lT (ins':=[eSR (ix l i)]) rfl (aBn e (ix l i) (hr i) he) (by simp (disch:=omega) only [zB,eqDs,aT,Nat.reduceAdd,aC]) rfl ?_)
    | (refine aN rfl (Exists.intro (i+1) ⟨by omega,⟨by omega,by omega,?_⟩,aP (aC _ (by omega)),rfl,rfl,rfl,trivial⟩))
    | refine aB rfl ?_ ?_
    | (refine aE rfl ?_;first | refine rb ?_ | refine ri ?_ | refine aZ ?_ ?_ | refine aY ?_)
    | refine aD rfl ?_)
  · rw [hP,show ((l.length:Int) - i).toNat=((l.length:Int) - (i+1)).toNat+1 by omega,cF,if_pos h]
  · rw [hP,show ((l.length:Int) - i).toNat=((l.length:Int) - (i+1)).toNat+1 by omega,cF,if_neg h]
  · rw [hP,show ((l.length:Int) - i).toNat=0 by omega,cF]
theorem Si (e:Vt)(l:List SR)(hl:l.length≤lim)(he:BdR e.root)(hr:∀ i,BdR (ix l i)):FunOk PP W cT bG [[.sl (l.map eSR)],[.fn dM [] [yR e]]] [bo (decide (∃ x∈l,(fun s=>uH s=uH e.root∧s.sigs=e.root.sigs) x))]:=by
  refine jK (aH ?_)
  (repeat' first
    | (refine run_ite rfl (fun h=>?_) (fun h=>?_)<;>(try simp (disch:=omega) only [zB,eqDs,aT,Nat.reduceAdd,aC] at h)<;>(try (exfalso;omega)))
    | refine aF rfl ?_
    | refine aG rfl ?_
    | refine aA rfl (Sg e l hl he hr) rfl ?_
    | refine aB rfl ?_ ?_
    | (refine aE rfl ?_;first | refine rb ?_ | refine ri ?_ | refine aZ ?_ ?_ | refine aY ?_)
    | refine aD rfl ?_)
  congr 1
  simp only [ge_iff_le,eq_iff_iff]
  exact iQ _ _
theorem Sj (e:Vt)(l:List SX)(hl:l.length≤lim)(he:BdX e.ix)(hr:∀ i,BdX (ix l i)):FunOk PP W cZ bN [[.sl (l.map eSX)],[.fn dN [] [yR e]]] [i64 (cF (fun s=>yQ s=yQ e.ix∧s.sigs=e.ix.sigs) l l.length 0)]:=by
  refine lF (aH ?_)
  unfold lim at hl
  refine aO rfl (fun i:Int=>0≤i∧i≤l.length∧cF (fun s=>yQ s=yQ e.ix∧s.sigs=e.ix.sigs) l l.length 0=cF (fun s=>yQ s=yQ e.ix∧s.sigs=e.ix.sigs) l (l.length - i).toNat i) (fun i=>[(8,.val (i64 i)),(0,.val [.sl (l.map eSX)]),(1,.val [.fn dN [] [yR e]]),(7,.val (i64 (l.map eSX).length))]) (fun i=>(l.length - i).toNat) 0 ⟨by omega,by omega,by simp⟩ ⟨rfl,rfl,rfl,rfl,trivial⟩ rfl ?_
  rintro i E ⟨h0,hN,hP⟩
  (repeat' first
    | (refine run_ite rfl (fun h=>?_) (fun h=>?_)<;>(try simp (disch:=omega) only [zB,eqDs,aT,Nat.reduceAdd,aC] at h)<;>(try (exfalso;omega)))
    | refine aF rfl ?_
    | refine aG rfl ?_
    | (refine lT (ins':=[eSX (ix l i)]) rfl (aBo e (ix l i) (hr i) he) (by simp (disch:=omega) only [zB,eqDs,aT,Nat.reduceAdd,aC]) rfl ?_)
    | (refine aN rfl (Exists.intro (i+1) ⟨by omega,⟨by omega,by omega,?_⟩,aP (aC _ (by omega)),rfl,rfl,rfl,trivial⟩))
    | refine aB rfl ?_ ?_
    | (refine aE rfl ?_;first | refine rb ?_ | refine ri ?_ | refine aZ ?_ ?_ | refine aY ?_)
    | refine aD rfl ?_)
  · rw [hP,show ((l.length:Int) - i).toNat=((l.length:Int) - (i+1)).toNat+1 by omega,cF,if_pos h]
  · rw [hP,show ((l.length:Int) - i).toNat=((l.length:Int) - (i+1)).toNat+1 by omega,cF,if_neg h]
  · rw [hP,show ((l.length:Int) - i).toNat=0 by omega,cF]
theorem Sk (e:Vt)(l:List SX)(hl:l.length≤lim)(he:BdX e.ix)(hr:∀ i,BdX (ix l i)):FunOk PP W cH bF [[.sl (l.map eSX)],[.fn dN [] [yR e]]] [bo (decide (∃ x∈l,(fun s=>yQ s=yQ e.ix∧s.sigs=e.ix.sigs) x))]:=by
  refine jC (aH ?_)
  (repeat' first
    | (refine run_ite rfl (fun h=>?_) (fun h=>?_)<;>(try simp (disch:=omega) only [zB,eqDs,aT,Nat.reduceAdd,aC] at h)<;>(try (exfalso;omega)))
    | refine aF rfl ?_
    | refine aG rfl ?_
    | refine aA rfl (Sj e l hl he hr) rfl ?_
    | refine aB rfl ?_ ?_
    | (refine aE rfl ?_;first | refine rb ?_ | refine ri ?_ | refine aZ ?_ ?_ | refine aY ?_)
    | refine aD rfl ?_)
  congr 1
  simp only [ge_iff_le,eq_iff_iff]
  exact iQ _ _
theorem aD5 (w:Wo)(e:Vt)(hs:BdW w)(hr:BdR e.root)(hx:BdX e.ix):FunOk PP W vV lW [sO w,yR e] [bo (decide ((e.kind=5∨e.kind=6)∧Gp w e))]:=by
  refine Jy (aH ?_)
  have hb1:=Ex hs.roots.2
  have hb2:=Ey hs.ixs.2
  by_cases h5:e.kind=5
  · rw [show decide ((e.kind=5∨e.kind=6)∧Gp w e)=decide (aA6 w e.root) from decide_eq_decide.2 ⟨fun h'=>by have:=h'.2;rw [Gp,if_pos h5] at this;exact this,fun h'=>⟨.inl h5,by rw [Gp,if_pos h5];exact h'⟩⟩]
    (repeat' first
    | (refine run_ite rfl (fun h=>?_) (fun h=>?_)<;>(try simp (disch:=omega) only [zB,eqDs,aT,Nat.reduceAdd,aC] at h)<;>(try (exfalso;omega)))
    | refine aF rfl ?_
    | refine aG rfl ?_
    | refine aA rfl (LY w e.root.sigs hs hr.2) rfl ?_
    | refine aA rfl (Si e w.roots (vM hs.roots.1) hr hb1) rfl ?_
    | refine aB rfl ?_ ?_
    | (refine aE rfl ?_;first | refine rb ?_ | refine ri ?_ | refine aZ ?_ ?_ | refine aY ?_)
    | refine aD rfl ?_)
    · exact tD (p:=aA6 w e.root) (.inr h)
    · exact decide_eq_decide.2 ⟨fun h'=> .inl h',fun h'=>h'.resolve_right h⟩
    all_goals exact absurd h5 (by assumption)
  · by_cases h6:e.kind=6
    · rw [show decide ((e.kind=5∨e.kind=6)∧Gp w e)=decide (aA7 w e.ix) from decide_eq_decide.2 ⟨fun h'=>by have:=h'.2;rw [Gp,if_neg h5] at this;exact this,fun h'=>⟨.inr h6,by rw [Gp,if_neg h5];exact h'⟩⟩]
      (repeat' first
    | (refine run_ite rfl (fun h=>?_) (fun h=>?_)<;>(try simp (disch:=omega) only [zB,eqDs,aT,Nat.reduceAdd,aC] at h)<;>(try (exfalso;omega)))
    | refine aF rfl ?_
    | refine aG rfl ?_
    | refine aA rfl (LY w e.ix.sigs hs hx.2) rfl ?_
    | refine aA rfl (Sk e w.ixs (vM hs.ixs.1) hx hb2) rfl ?_
    | refine aB rfl ?_ ?_
    | (refine aE rfl ?_;first | refine rb ?_ | refine ri ?_ | refine aZ ?_ ?_ | refine aY ?_)
    | refine aD rfl ?_)
      all_goals first
        | exact tD (p:=aA7 w e.ix) (.inr h)
        | exact decide_eq_decide.2 ⟨fun h'=> .inl h',fun h'=>h'.resolve_right h⟩
        | exact absurd h6 (by assumption)
        | exact absurd h h5
    · (repeat' first
    | (refine run_ite rfl (fun h=>?_) (fun h=>?_)<;>(try simp (disch:=omega) only [zB,eqDs,aT,Nat.reduceAdd,aC] at h)<;>(try (exfalso;omega)))
    | refine aF rfl ?_
    | refine aG rfl ?_
    | refine aB rfl ?_ ?_
    | (refine aE rfl ?_;first | refine rb ?_ | refine ri ?_ | refine aZ ?_ ?_ | refine aY ?_)
    | refine aD rfl ?_)
      all_goals first
        | exact absurd h h5
        | exact absurd h h6
        | exact fD (p:=(e.kind=5∨e.kind=6)∧Gp w e) (fun h'=>by omega)
end
end V
end Go.Proofs.YtgekfemnjphmbaaGreat

/-
Plain proofs: slices.Grow and slices.Concat.
-/
namespace Go.Proofs.YtgekfemnjphmbaaGreat
open Go.RowKit
set_option maxRecDepth 100000
set_option maxHeartbeats 2000000

theorem Vq:Tryz.prog.underlying 41=some (.slice 70):=by kernel_rfl
theorem Yi:∃ i,Tryz.prog.info? 70=some i∧i.zero=some (.agg #[.int .i64 0,.int .i64 0,.slice none 0 0,.slice none 0 0])∧i.size=4∧i.bytes=64:=by
  have h:(Tryz.prog.info? 70).map (fun i=>(i.size,i.bytes,i.zero))=some (4,64,some (.agg #[.int .i64 0,.int .i64 0,.slice none 0 0,.slice none 0 0])):=by kernel_rfl
  obtain ⟨i,hi,h⟩:=Option.map_eq_some_iff.1 h
  simp only [Prod.mk.injEq] at h
  exact ⟨i,hi,h.2.2,h.1,h.2.1⟩
def Vr (w w':World)(G:Nat):Prop:=w'.os=w.os∧w'.tape=w.tape∧w'.output=w.output∧w'.heap.size=w.heap.size+1∧(∀ k,k<w.heap.size→w'.heap[k]? =w.heap[k]?)∧∃ row:Array Value,row.size=G*4∧w'.heap[w.heap.size]? =some (.cells row 70 (0,0))
theorem Mq (w:World)(n:Nat)(h0:0<n)(hn:n≤6000000):Calls Tryz.prog 136 #[.slice none 0 0,.int .i64 n] w fun e w'=>∃ G,e= .returned (.slice (some ⟨w.heap.size,0,none⟩) 0 G)∧G≤maxLen∧Vr w w' G:=by
  obtain ⟨ti,ti1,ti2,ti3,ti4⟩:=Yi
  have hr:∀ ty,(Builtin.append_ #[41,3] ty #[.slice none 0 0,.int .i64 n]).run Tryz.prog w= .ok (.slice (some ⟨w.heap.size,0,none⟩) n (grownCap w n 0 70)) (w.drew.alloc (.cells (Builtin.zeroCells #[.int .i64 0,.int .i64 0,.slice none 0 0,.slice none 0 0] n++Builtin.zeroCells #[.int .i64 0,.int .i64 0,.slice none 0 0,.slice none 0 0] (grownCap w n 0 70 - n)) 70)):=fun ty=>
    Lib.run_append_nil_zeros (P:=Tryz.prog) w 41 3 ty 70 ti _ .i64 .i64 Vq (by kernel_rfl) ti1 ti2 n h0 (by omega) (by omega) (by rw [ti4];omega)
  have hGn:n≤grownCap w n 0 70:=grownCap_ge w _ _ _
  have hGm:grownCap w n 0 70≤maxLen:=grownCap_le_maxLen w n 0 70 (by unfold maxLen;omega)
  clear ti1 ti2 ti3 ti4
  have hb1:¬((n:Int)<0):=by omega
  have hb2:(0:Int)<(n:Int):=by omega
  have hw1:IntKind.i64.wrap (n:Int)=n:=by rw [IntKind.wrap_i64];omega
  have mixed:Tryz.prog.follows .mixedOrders=true:=V.mixed
  go_enter Tryz.func136,Tryz.ntmps136
  go_wp2_with (at_builtin;refine Lib.wpList_append_run _ rfl _ _ _ _ rfl _ _ rfl rfl _ _ (hr _) ?_)
  go_ret
  refine ⟨grownCap w n 0 70,rfl,hGm,rfl,rfl,rfl,by show (w.heap.push _).size=_;simp,fun k hk=>heap_alloc_old w _ hk,_,?_,heap_alloc_new w _⟩
  simp only [Array.size_append,size_zeroCells,List.size_toArray,List.length_cons,List.length_nil]
  omega

theorem KK (w:World):Calls Tryz.prog 136 #[.slice none 0 0,.int .i64 0] w fun e w'=>e= .returned (.slice none 0 0)∧w'=w:=by
  have mixed:Tryz.prog.follows .mixedOrders=true:=V.mixed
  go_enter Tryz.func136,Tryz.ntmps136
  go_wp2
  go_ret
  exact ⟨rfl,rfl⟩
namespace V
variable {W:Wld}
def vN (w:World):Own:=fun g=>if g=w.heap.size then some ⟨(0,1),[],some 0⟩ else none
theorem Pm (n:Int)(h:0≤n∧n≤6000000):FunOk PP W Bm pW [[.sl []],i64 n] [[.sl []]]:=by
  refine ⟨⟨Tryz.f136,Tryz.func136,by kernel_rfl,by kernel_rfl⟩,fun w own cx vals hP hw hlow hvl hil hinv=>?_⟩
  match vals,hvl with
  | [v0,v1],_=>
    obtain ⟨vs0,e0,l0,a0⟩:=hinv (0,.v false [.n]) (List.mem_cons_self ..)
    obtain ⟨vs1,e1,l1,a1⟩:=hinv (1,.v false [.s]) (List.mem_cons_of_mem _ (List.mem_cons_self ..))
    have hl0:=l0 rfl
    have hl1:=l1 rfl
    match vs0,hl0,vs1,hl1 with
    | [u0],_,[u1],_=>
      have h0:v0=u0:=e0
      have h1:v1=u1:=e1
      subst h0;subst h1
      obtain ⟨_,hr⟩:=a0.2.2 0 .n (.sl []) v0 rfl rfl rfl
      obtain ⟨_,hs⟩:=a1.2.2 0 .s (.int .i64 n) v1 rfl rfl rfl
      have hv0:v0= .slice none 0 0:=hr.2
      have hv1:v1= .int .i64 n:=by cases hs;rfl
      subst hv0;subst hv1
      have hN:cx.N w.heap.size:=(hw.n _).2 (.inl (Nat.le_refl _))
      have fin:∀ (w':World) (own':Own) (v:Value),WOk w own cx own' w'→OwnRep w' cx own' (0,1) false ⟨4,false⟩ (.sl []) v→Cell1 v→∃ u own'',Ending.returned v= .returned u∧WOk w own cx own'' w'∧AA w' cx own'' pW [[.sl []]] [.slice none 0 0,.int .i64 n] u:=fun w' own' v hw' hv hc=>by
        refine ⟨v,own',rfl,hw',rfl,[v],rfl,rfl,fun k p hp=>?_,fun i b hb=>by simp [boxPs] at hb⟩
        cases k with
        | succ k=>simp at hp
        | zero=>
          have hp:PSh.v false [.o false ⟨4,false⟩]=p:=by simpa using hp
          subst hp
          refine ⟨[v],rfl,fun _=>rfl,rfl,rfl,fun i c dd u hc' hd hu=>?_⟩
          cases i with
          | succ i=>simp at hc'
          | zero=>
            simp only [List.getElem?_cons_zero,Option.some.injEq] at hc' hu
            subst hc';subst hu
            have hd:some (D.sl [])=some dd:=hd
            simp only [Option.some.injEq] at hd
            subst hd
            exact ⟨hc,hv⟩
      have c1:∀ a l c,Cell1 (.slice a l c):=fun a l c=>⟨fun x h=>(by cases h),fun x h=>(by cases h)⟩
      by_cases hz:n=0
      · subst hz
        refine (KK w).mono ?_
        rintro e w' ⟨rfl,rfl⟩
        exact fin _ own _ hw .nil (c1 _ _ _)
      · have hnn:n=((n.toNat:Nat):Int):=by omega
        rw [hnn]
        rw [hnn] at fin
        refine (Mq w n.toNat (by omega) (by omega)).mono ?_
        rintro e w' ⟨G,rfl,hG,g1,g2,g3,g4,g5,row,g6,g7⟩
        have hro:∀ g i,vN w g=some i→g=w.heap.size∧i=⟨(0,1),[],some 0⟩:=fun g i h=>by
          unfold vN at h
          split at h
          · rename_i hg
            simp only [Option.some.injEq] at h
            exact ⟨hg,h.symm⟩
          · cases h
        have hcell:∀ g o,g<w.heap.size→w'.cell? ⟨g,o,none⟩=w.cell? ⟨g,o,none⟩:=fun g o hg=>by simp only [World.cell?,g5 g hg]
        refine fin w' (vN w) _ ⟨⟨g1,g2,g3,by omega,fun g hg _=>g5 g hg,fun g o hg _=>hcell g o hg,fun g cur T h=>⟨cur,by rw [g5 g (DB h)];exact h,rfl⟩⟩,fun g i h=>?_,hw.n,hw.s1,hw.s2,fun g o hg hc=>?_,fun g g' i j h h' _ _=>?_⟩ ?_ (c1 _ _ _)
        · obtain ⟨rfl,_⟩:=hro g i h
          exact ⟨by omega,hN⟩
        · obtain ⟨i,b,h1,_⟩:=hc
          obtain ⟨rfl,_⟩:=hro g i h1
          omega
        · rw [(hro g i h).1,(hro g' j h').1]
        · exact OwnRep.sl (f:=⟨4,false⟩) (m:=false) [] w.heap.size G row 70 (0,0) (fun _ _=> .int .i64 0) g7 (by unfold vN;rw [if_pos rfl];simp) (Nat.zero_le _) hG (by rw [g6];exact Nat.le_refl _) (fun o _=>by simp) (by decide) (fun x hx=>by cases hx) (fun i x j d hx _=>by simp at hx) (fun i x j d hx _=>by simp at hx)
end V

namespace V
variable {W:Wld}
theorem aD6 {f:Nat}{a c:List D}(h:FunOk PP W f ⟨[.v false [.r]],[.v false [.r]]⟩ [a] [c]):FunOk PP W f ⟨[.v false [.b]],[.v false [.b]]⟩ [a] [c]:=by
  refine ⟨h.1,fun w own cx vals hP hw hlow hvl hil hinv=>?_⟩
  let cx':Cx:=⟨fun g o=>g<w.heap.size∧BS cx own g o,fun g o=>g<w.heap.size∧BS cx own g o,fun g=>w.heap.size≤g⟩
  have hn0:∀ g o,¬claimed (fun _=>none) g o:=fun g o=>aW rfl
  have hw':WOk w (fun _=>none) cx' (fun _=>none) w:=⟨Kept.refl _ _,fun g i h=>(by cases h),fun g=>⟨.inl,fun h=>h.resolve_right (fun h=>h rfl)⟩,fun g o h=>h,fun g o h=>⟨h.1,hn0 g o⟩,fun g o _ h=>(hn0 g o h).elim,fun g g' i j h=>(by cases h)⟩
  have hinv':Inv (rQ ⟨[.v false [.r]],[.v false [.r]]⟩) w cx' (fun _=>none) (envL [a]) (tvL vals):=fun p hp=>by
    have hp:p=(0,.v false [.r]):=List.mem_singleton.1 hp
    subst hp
    obtain ⟨vs,e0,l0,a0,a1,a2⟩:=hinv (0,.v false [.b]) (List.mem_singleton.2 rfl)
    refine ⟨vs,e0,l0,a0,a1,fun i c d v hc hd hv=>?_⟩
    cases i with
    | succ i=>simp at hc
    | zero=>
      simp only [List.getElem?_cons_zero,Option.some.injEq] at hc
      subst hc
      obtain ⟨q1,q2⟩:=a2 0 .b d v rfl hd hv
      have q2:Rep w (BS cx own) d v:=q2
      refine ⟨q1,Rep.sub q2 (fun g o hs=>⟨rfl,?_⟩)⟩
      rcases Nat.lt_or_ge g w.heap.size with hg | hg
      · exact .inl ⟨hg,hs⟩
      · exact .inr hg
  refine (h.2 w (fun _=>none) cx' vals hP hw' (fun g i h=>(by cases h)) hvl hil hinv').mono ?_
  rintro e w' ⟨v,own',rfl,hk,hr⟩
  refine ⟨v,own,rfl,⟨⟨hk.kept.os,hk.kept.tape,hk.kept.output,hk.kept.size,fun g hg _=>hk.kept.block g hg rfl,fun g o hg _=>hk.kept.cell g o hg (hn0 g o),hk.kept.row⟩,fun g i h=>⟨Nat.lt_of_lt_of_le (hw.dom g i h).1 hk.kept.size,(hw.dom g i h).2⟩,hw.n,hw.s1,hw.s2,fun g o _ h=>h,hw.inj⟩,?_⟩
  obtain ⟨r1,rv,r2,r3,r4,r5⟩:=hr
  refine ⟨r1,rv,r2,r3,fun k p hp=>?_,fun i b hb=>by simp [boxPs] at hb⟩
  cases k with
  | succ k=>simp at hp
  | zero=>
    have hp:PSh.v false [.b]=p:=by simpa using hp
    subst hp
    obtain ⟨vs,e0,l0,a0,a1,a2⟩:=r4 0 (.v false [.r]) rfl
    refine ⟨vs,e0,l0,a0,a1,fun i c d v hc hd hv=>?_⟩
    cases i with
    | succ i=>simp at hc
    | zero=>
      simp only [List.getElem?_cons_zero,Option.some.injEq] at hc
      subst hc
      obtain ⟨q1,q2⟩:=a2 0 .r d v rfl hd hv
      have q2:Rep w' (RS cx' own') d v:=q2
      refine ⟨q1,Rep.sub q2 (fun g o hs=>?_)⟩
      rcases hs.2 with h' | h'
      · exact h'.2
      · have h':w.heap.size≤g:=h'
        refine ⟨fun ⟨i,b,h1,_⟩=>?_,.inr ((hw.n g).2 (.inl h'))⟩
        have:=(hw.dom g i h1).1
        omega
def kS (i:Int)(a b c:List Pk):List Pk:=if i=0 then [] else if i=1 then a else if i=2 then a++b else a++b++c
theorem Yj (a b c:List Pk)(ha:a.length≤2000000)(hb:b.length≤2000000)(hc:c.length≤2000000):FunOk PP W mE jH [[.sl [cK a,cK b,cK c]]] [cK (a++b++c)]:=by
  refine Da (aH ?_)
  have h3:(kS 3 a b c).length≤6000000:=by simp [kS];omega
  have w0:∀ n:Nat,n≤6000000→IntKind.i64.wrap (n:Int)=n:=fun n h=>aC _ (by omega)
  refine aO rfl (fun i:Int=>0≤i∧i≤3) (fun i=>[(11,.val (i64 i)),(3,.val (i64 (kS i a b c).length)),(9,.val [.sl [cK a,cK b,cK c]]),(10,.val (i64 3)),(0,.val [.sl [cK a,cK b,cK c]])]) (fun i=>(3 - i).toNat) 0 ⟨by omega,by omega⟩ ⟨rfl,rfl,rfl,rfl,rfl,trivial⟩ rfl ?_
  rintro i e ⟨h0,hN⟩
  have hi:i=0∨i=1∨i=2∨i=3:=by omega
  have hz:∀ x:List Pk,x.length≤2000000→∀ y:Nat,y≤4000000→IntKind.i64.wrap ((y:Int)+(x.map ePk).length)=((y+x.length:Nat):Int):=fun x h1 y h2=>by rw [List.length_map,aC _ (by omega)];omega
  rcases hi with rfl | rfl | rfl | rfl
  · (repeat' first
    | (refine run_ite rfl (fun h=>?_) (fun h=>?_)<;>(try simp (disch:=omega) only [zB,eqDs,aT,Nat.reduceAdd,aC] at h)<;>(try (exfalso;omega)))
    | refine aF rfl ?_
    | refine aG rfl ?_
    | (refine aB rfl (gT (enc:=cK) (xs:=[a,b,c]) (by simp) (by simp) (fun _=>rfl)) ?_)
    | (refine aB rfl (gU (enc:=cK) (xs:=[a,b,c]) (by simp) (by simp) (fun _=>rfl)) ?_)
    | (refine aN rfl (Exists.intro 1 ⟨by decide,⟨by decide,by decide⟩,rfl,?_,rfl,rfl,rfl,trivial⟩))
    | refine aB rfl ?_ ?_
    | (refine aE rfl ?_;first | refine rb ?_ | refine ri ?_ | refine aZ ?_ ?_ | refine aY ?_)
    | refine aD rfl ?_)
    · exfalso
      have h1:=hz a (by omega) (kS 0 a b c).length (by simp [kS];try omega)
      have h2:(((kS 0 a b c).length+a.length:Nat):Int)<0:=h1▸h
      omega
    · exact aP ((hz a (by omega) (kS 0 a b c).length (by simp [kS];try omega)).trans (by simp [kS];try omega))
  · (repeat' first
    | (refine run_ite rfl (fun h=>?_) (fun h=>?_)<;>(try simp (disch:=omega) only [zB,eqDs,aT,Nat.reduceAdd,aC] at h)<;>(try (exfalso;omega)))
    | refine aF rfl ?_
    | refine aG rfl ?_
    | (refine aB rfl (gT (enc:=cK) (xs:=[a,b,c]) (by simp) (by simp) (fun _=>rfl)) ?_)
    | (refine aB rfl (gU (enc:=cK) (xs:=[a,b,c]) (by simp) (by simp) (fun _=>rfl)) ?_)
    | (refine aN rfl (Exists.intro 2 ⟨by decide,⟨by decide,by decide⟩,rfl,?_,rfl,rfl,rfl,trivial⟩))
    | refine aB rfl ?_ ?_
    | (refine aE rfl ?_;first | refine rb ?_ | refine ri ?_ | refine aZ ?_ ?_ | refine aY ?_)
    | refine aD rfl ?_)
    · exfalso
      have h1:=hz b (by omega) (kS 1 a b c).length (by simp [kS];try omega)
      have h2:(((kS 1 a b c).length+b.length:Nat):Int)<0:=h1▸h
      omega
    · exact aP ((hz b (by omega) (kS 1 a b c).length (by simp [kS];try omega)).trans (by simp [kS];try omega))
  · (repeat' first
    | (refine run_ite rfl (fun h=>?_) (fun h=>?_)<;>(try simp (disch:=omega) only [zB,eqDs,aT,Nat.reduceAdd,aC] at h)<;>(try (exfalso;omega)))
    | refine aF rfl ?_
    | refine aG rfl ?_
    | (refine aB rfl (gT (enc:=cK) (xs:=[a,b,c]) (by simp) (by simp) (fun _=>rfl)) ?_)
    | (refine aB rfl (gU (enc:=cK) (xs:=[a,b,c]) (by simp) (by simp) (fun _=>rfl)) ?_)
    | (refine aN rfl (Exists.intro 3 ⟨by decide,⟨by decide,by decide⟩,rfl,?_,rfl,rfl,rfl,trivial⟩))
    | refine aB rfl ?_ ?_
    | (refine aE rfl ?_;first | refine rb ?_ | refine ri ?_ | refine aZ ?_ ?_ | refine aY ?_)
    | refine aD rfl ?_)
    · exfalso
      have h1:=hz c (by omega) (kS 2 a b c).length (by simp [kS];try omega)
      have h2:(((kS 2 a b c).length+c.length:Nat):Int)<0:=h1▸h
      omega
    · exact aP ((hz c (by omega) (kS 2 a b c).length (by simp [kS];try omega)).trans (by simp [kS];try omega))
  have hg:=Pm (W:=W) ((kS 3 a b c).length:Int) (by omega)
  (repeat' first
    | (refine run_ite rfl (fun h=>?_) (fun h=>?_)<;>(try simp (disch:=omega) only [zB,eqDs,aT,Nat.reduceAdd,aC] at h)<;>(try (exfalso;omega)))
    | refine aF rfl ?_
    | refine aG rfl ?_
    | refine aA rfl (hg) rfl ?_
    | refine aB rfl ?_ ?_
    | (refine aE rfl ?_;first | refine rb ?_ | refine ri ?_ | refine aZ ?_ ?_ | refine aY ?_)
    | refine aD rfl ?_)
  refine aO rfl (fun i:Int=>0≤i∧i≤3) (fun i=>[(27,.val (i64 i)),(6,.val (cK (kS i a b c))),(25,.val [.sl [cK a,cK b,cK c]]),(26,.val (i64 3)),(0,.val [.sl [cK a,cK b,cK c]])]) (fun i=>(3 - i).toNat) 0 ⟨by omega,by omega⟩ ⟨rfl,rfl,rfl,rfl,rfl,trivial⟩ rfl ?_
  rintro i e ⟨k0,kN⟩
  have hi:i=0∨i=1∨i=2∨i=3:=by omega
  have hap:∀ x y:List Pk,x.length≤4000000→y.length≤2000000→Kv 4 false (x.map ePk) (y.map ePk):=fun x y h1 h2=>dZ (by omega) (fun _=>rfl) (fun _=>rfl)
  rcases hi with rfl | rfl | rfl | rfl
  · (repeat' first
    | (refine run_ite rfl (fun h=>?_) (fun h=>?_)<;>(try simp (disch:=omega) only [zB,eqDs,aT,Nat.reduceAdd,aC] at h)<;>(try (exfalso;omega)))
    | refine aF rfl ?_
    | refine aG rfl ?_
    | (refine aB rfl (gT (enc:=cK) (xs:=[a,b,c]) (by simp) (by simp) (fun _=>rfl)) ?_)
    | (refine aB rfl (gU (enc:=cK) (xs:=[a,b,c]) (by simp) (by simp) (fun _=>rfl)) ?_)
    | (refine aB rfl (hap (kS 0 a b c) a (by simp [kS];try omega) (by omega)) ?_)
    | (refine aN rfl (Exists.intro 1 ⟨by decide,⟨by decide,by decide⟩,rfl,?_,rfl,rfl,rfl,trivial⟩))
    | refine aB rfl ?_ ?_
    | (refine aE rfl ?_;first | refine rb ?_ | refine ri ?_ | refine aZ ?_ ?_ | refine aY ?_)
    | refine aD rfl ?_)
    all_goals first
      | exact jE (show List.map ePk (kS 0 a b c)++List.map ePk a=List.map ePk (kS 1 a b c) by rw [←List.map_append];rfl)
     
  · (repeat' first
    | (refine run_ite rfl (fun h=>?_) (fun h=>?_)<;>(try simp (disch:=omega) only [zB,eqDs,aT,Nat.reduceAdd,aC] at h)<;>(try (exfalso;omega)))
    | refine aF rfl ?_
    | refine aG rfl ?_
    | (refine aB rfl (gT (enc:=cK) (xs:=[a,b,c]) (by simp) (by simp) (fun _=>rfl)) ?_)
    | (refine aB rfl (gU (enc:=cK) (xs:=[a,b,c]) (by simp) (by simp) (fun _=>rfl)) ?_)
    | (refine aB rfl (hap (kS 1 a b c) b (by simp [kS];try omega) (by omega)) ?_)
    | (refine aN rfl (Exists.intro 2 ⟨by decide,⟨by decide,by decide⟩,rfl,?_,rfl,rfl,rfl,trivial⟩))
    | refine aB rfl ?_ ?_
    | (refine aE rfl ?_;first | refine rb ?_ | refine ri ?_ | refine aZ ?_ ?_ | refine aY ?_)
    | refine aD rfl ?_)
    all_goals first
      | exact jE (show List.map ePk (kS 1 a b c)++List.map ePk b=List.map ePk (kS 2 a b c) by rw [←List.map_append];rfl)
     
  · (repeat' first
    | (refine run_ite rfl (fun h=>?_) (fun h=>?_)<;>(try simp (disch:=omega) only [zB,eqDs,aT,Nat.reduceAdd,aC] at h)<;>(try (exfalso;omega)))
    | refine aF rfl ?_
    | refine aG rfl ?_
    | (refine aB rfl (gT (enc:=cK) (xs:=[a,b,c]) (by simp) (by simp) (fun _=>rfl)) ?_)
    | (refine aB rfl (gU (enc:=cK) (xs:=[a,b,c]) (by simp) (by simp) (fun _=>rfl)) ?_)
    | (refine aB rfl (hap (kS 2 a b c) c (by simp [kS];try omega) (by omega)) ?_)
    | (refine aN rfl (Exists.intro 3 ⟨by decide,⟨by decide,by decide⟩,rfl,?_,rfl,rfl,rfl,trivial⟩))
    | refine aB rfl ?_ ?_
    | (refine aE rfl ?_;first | refine rb ?_ | refine ri ?_ | refine aZ ?_ ?_ | refine aY ?_)
    | refine aD rfl ?_)
    all_goals first
      | exact jE (show List.map ePk (kS 2 a b c)++List.map ePk c=List.map ePk (kS 3 a b c) by rw [←List.map_append];rfl)
     
  · (repeat' first
    | (refine run_ite rfl (fun h=>?_) (fun h=>?_)<;>(try simp (disch:=omega) only [zB,eqDs,aT,Nat.reduceAdd,aC] at h)<;>(try (exfalso;omega)))
    | refine aF rfl ?_
    | refine aG rfl ?_
    | refine aB rfl ?_ ?_
    | (refine aE rfl ?_;first | refine rb ?_ | refine ri ?_ | refine aZ ?_ ?_ | refine aY ?_)
    | refine aD rfl ?_)
    rfl
theorem Vs (a b c:List Pk)(ha:a.length≤2000000)(hb:b.length≤2000000)(hc:c.length≤2000000):FunOk PP W mE rO [[.sl [cK a,cK b,cK c]]] [cK (a++b++c)]:=aD6 (Yj a b c ha hb hc)
end V
end Go.Proofs.YtgekfemnjphmbaaGreat

/-
Plain proofs: what the laws copy.
-/
namespace Go.Proofs.YtgekfemnjphmbaaGreat
namespace V
section
open Classical
variable {W:Wld}

theorem Ay (l:List Int)(hl:l.length≤lim):FunOk PP W mK iC [uL l] [uL l]:=by
  refine Qr (aH ?_)
  unfold lim at hl
  (repeat' first
    | (refine run_ite rfl (fun h=>?_) (fun h=>?_)<;>(try simp (disch:=omega) only [zB,eqDs,aT,Nat.reduceAdd,aC] at h)<;>(try (exfalso;omega)))
    | refine aF rfl ?_
    | refine aG rfl ?_
    | refine aB rfl ?_ ?_
    | (refine aE rfl ?_;first | refine rb ?_ | refine ri ?_ | refine aZ ?_ ?_ | refine aY ?_)
    | refine aD rfl ?_)
  · simp [lim];omega
  refine aO rfl (fun x:Int×List Int=>0≤x.1∧x.1≤l.length∧x.2.length=l.length∧mC x.1 (fun j=>ix x.2 j=ix l j)) (fun x=>[(4,.val (i64 x.1)),(3,.val (uL x.2)),(0,.val (uL l))]) (fun x=>(l.length - x.1).toNat) (0,List.replicate l.length 0) ⟨by omega,by simp,by simp,bB _⟩ ⟨rfl,jE (by simp),rfl,trivial⟩ rfl ?_
  rintro ⟨i,ys⟩ e ⟨h0,hN,hy,hP⟩
  dsimp only at h0 hN hy hP ⊢
  (repeat' first
    | (refine run_ite rfl (fun h=>?_) (fun h=>?_)<;>(try simp (disch:=omega) only [zB,eqDs,aT,Nat.reduceAdd,aC] at h)<;>(try (exfalso;omega)))
    | refine aF rfl ?_
    | refine aG rfl ?_
    | (refine aN rfl (Exists.intro (i+1,ys.set i.toNat (ix l i)) ⟨by dsimp only;omega,⟨by dsimp only;omega,by dsimp only;omega,by simpa using hy,yO h0 (by omega) hP⟩,aP (aC _ (by omega)),jE (by rw [aE8 h0 (by omega),z11]),rfl,trivial⟩))
    | refine aB rfl ?_ ?_
    | (refine aE rfl ?_;first | refine rb ?_ | refine ri ?_ | refine aZ ?_ ?_ | refine aY ?_)
    | refine aD rfl ?_)
  · exact jE (by rw [lL hy (cW hP (by omega))])
theorem Yk (p:P2):FunOk PP W Cb tT [eP2 p] [eP2 p]:=by
  refine Rq (aH ?_)
  (repeat' first
    | (refine run_ite rfl (fun h=>?_) (fun h=>?_)<;>(try simp (disch:=omega) only [zB,eqDs,aT,Nat.reduceAdd,aC] at h)<;>(try (exfalso;omega)))
    | refine aF rfl ?_
    | refine aG rfl ?_
    | refine aB rfl ?_ ?_
    | (refine aE rfl ?_;first | refine rb ?_ | refine ri ?_ | refine aZ ?_ ?_ | refine aY ?_)
    | refine aD rfl ?_)
  rfl
theorem Vu (l:List P2)(hl:l.length≤lim):FunOk PP W AX qW [jI l] [jI l]:=by
  refine Oz (aH ?_)
  unfold lim at hl
  (repeat' first
    | (refine run_ite rfl (fun h=>?_) (fun h=>?_)<;>(try simp (disch:=omega) only [zB,eqDs,aT,Nat.reduceAdd,aC] at h)<;>(try (exfalso;omega)))
    | refine aF rfl ?_
    | refine aG rfl ?_
    | refine aB rfl ?_ ?_
    | (refine aE rfl ?_;first | refine rb ?_ | refine ri ?_ | refine aZ ?_ ?_ | refine aY ?_)
    | refine aD rfl ?_)
  · simp [lim];omega
  refine aO rfl (fun x:Int×List P2=>0≤x.1∧x.1≤l.length∧x.2.length=l.length∧mC x.1 (fun j=>ix x.2 j=ix l j)) (fun x=>[(4,.val (i64 x.1)),(3,.val (jI x.2)),(0,.val (jI l))]) (fun x=>(l.length - x.1).toNat) (0,List.replicate l.length ⟨0,0⟩) ⟨by omega,by simp,by simp,bB _⟩ ⟨rfl,jE (by simp),rfl,trivial⟩ rfl ?_
  rintro ⟨i,ys⟩ e ⟨h0,hN,hy,hP⟩
  dsimp only at h0 hN hy hP ⊢
  (repeat' first
    | (refine run_ite rfl (fun h=>?_) (fun h=>?_)<;>(try simp (disch:=omega) only [zB,eqDs,aT,Nat.reduceAdd,aC] at h)<;>(try (exfalso;omega)))
    | refine aF rfl ?_
    | refine aG rfl ?_
    | refine cE rfl (Yk (ix l i)) rfl ?_
    | (refine wZ rfl (Ep (sz:=2) h0 (by omega) (by omega) (fun _=>rfl) (Nat.le_of_ble_eq_true rfl)) (jE (Tq h0 (by omega))) ?_)
    | (refine aN rfl (Exists.intro (i+1,ys.set i.toNat (ix l i)) ⟨by dsimp only;omega,⟨by dsimp only;omega,by dsimp only;omega,by simpa using hy,yO h0 (by omega) hP⟩,aP (aC _ (by omega)),rfl,rfl,trivial⟩))
    | refine aB rfl ?_ ?_
    | (refine aE rfl ?_;first | refine rb ?_ | refine ri ?_ | refine aZ ?_ ?_ | refine aY ?_)
    | refine aD rfl ?_)
  · exact jE (by rw [lL hy (cW hP (by omega))])
theorem aBp (p:P2):FunOk PP W Eh wT [eP2 p] [eP2 p]:=by
  refine VE (aH ?_)
  (repeat' first
    | (refine run_ite rfl (fun h=>?_) (fun h=>?_)<;>(try simp (disch:=omega) only [zB,eqDs,aT,Nat.reduceAdd,aC] at h)<;>(try (exfalso;omega)))
    | refine aF rfl ?_
    | refine aG rfl ?_
    | refine aB rfl ?_ ?_
    | (refine aE rfl ?_;first | refine rb ?_ | refine ri ?_ | refine aZ ?_ ?_ | refine aY ?_)
    | refine aD rfl ?_)
  rfl
theorem Yl (l:List P2)(hl:l.length≤lim):FunOk PP W CY tQ [jI l] [jI l]:=by
  refine Re (aH ?_)
  unfold lim at hl
  (repeat' first
    | (refine run_ite rfl (fun h=>?_) (fun h=>?_)<;>(try simp (disch:=omega) only [zB,eqDs,aT,Nat.reduceAdd,aC] at h)<;>(try (exfalso;omega)))
    | refine aF rfl ?_
    | refine aG rfl ?_
    | refine aB rfl ?_ ?_
    | (refine aE rfl ?_;first | refine rb ?_ | refine ri ?_ | refine aZ ?_ ?_ | refine aY ?_)
    | refine aD rfl ?_)
  · simp [lim];omega
  refine aO rfl (fun x:Int×List P2=>0≤x.1∧x.1≤l.length∧x.2.length=l.length∧mC x.1 (fun j=>ix x.2 j=ix l j)) (fun x=>[(4,.val (i64 x.1)),(3,.val (jI x.2)),(0,.val (jI l))]) (fun x=>(l.length - x.1).toNat) (0,List.replicate l.length ⟨0,0⟩) ⟨by omega,by simp,by simp,bB _⟩ ⟨rfl,jE (by simp),rfl,trivial⟩ rfl ?_
  rintro ⟨i,ys⟩ e ⟨h0,hN,hy,hP⟩
  dsimp only at h0 hN hy hP ⊢
  (repeat' first
    | (refine run_ite rfl (fun h=>?_) (fun h=>?_)<;>(try simp (disch:=omega) only [zB,eqDs,aT,Nat.reduceAdd,aC] at h)<;>(try (exfalso;omega)))
    | refine aF rfl ?_
    | refine aG rfl ?_
    | refine cE rfl (aBp (ix l i)) rfl ?_
    | (refine wZ rfl (Ep (sz:=2) h0 (by omega) (by omega) (fun _=>rfl) (Nat.le_of_ble_eq_true rfl)) (jE (Tq h0 (by omega))) ?_)
    | (refine aN rfl (Exists.intro (i+1,ys.set i.toNat (ix l i)) ⟨by dsimp only;omega,⟨by dsimp only;omega,by dsimp only;omega,by simpa using hy,yO h0 (by omega) hP⟩,aP (aC _ (by omega)),rfl,rfl,trivial⟩))
    | refine aB rfl ?_ ?_
    | (refine aE rfl ?_;first | refine rb ?_ | refine ri ?_ | refine aZ ?_ ?_ | refine aY ?_)
    | refine aD rfl ?_)
  · exact jE (by rw [lL hy (cW hP (by omega))])
theorem UG (p:Pk)(hs:SmP p):FunOk PP W BJ sM [ePk p] [ePk p]:=by
  refine Ur (aH ?_)
  obtain ⟨h1,h2⟩:=hs
  (repeat' first
    | (refine run_ite rfl (fun h=>?_) (fun h=>?_)<;>(try simp (disch:=omega) only [zB,eqDs,aT,Nat.reduceAdd,aC] at h)<;>(try (exfalso;omega)))
    | refine aF rfl ?_
    | refine aG rfl ?_
    | refine aA rfl (Vu p.files h1) rfl ?_
    | refine aA rfl (Yl p.deps h2) rfl ?_
    | refine aB rfl ?_ ?_
    | (refine aE rfl ?_;first | refine rb ?_ | refine ri ?_ | refine aZ ?_ ?_ | refine aY ?_)
    | refine aD rfl ?_)
  rfl
theorem EF (l:List Pk)(hs:SmPs l):FunOk PP W pA kC [cK l] [cK l]:=by
  refine Qp (aH ?_)
  have hl:=hs.1
  unfold lim at hl
  (repeat' first
    | (refine run_ite rfl (fun h=>?_) (fun h=>?_)<;>(try simp (disch:=omega) only [zB,eqDs,aT,Nat.reduceAdd,aC] at h)<;>(try (exfalso;omega)))
    | refine aF rfl ?_
    | refine aG rfl ?_
    | refine aB rfl ?_ ?_
    | (refine aE rfl ?_;first | refine rb ?_ | refine ri ?_ | refine aZ ?_ ?_ | refine aY ?_)
    | refine aD rfl ?_)
  · simp [lim];omega
  refine aO rfl (fun x:Int×List Pk=>0≤x.1∧x.1≤l.length∧x.2.length=l.length∧mC x.1 (fun j=>ix x.2 j=ix l j)) (fun x=>[(4,.val (i64 x.1)),(3,.val (cK x.2)),(0,.val (cK l))]) (fun x=>(l.length - x.1).toNat) (0,List.replicate l.length ⟨0,0,[],[]⟩) ⟨by omega,by simp,by simp,bB _⟩ ⟨rfl,jE (by simp),rfl,trivial⟩ rfl ?_
  rintro ⟨i,ys⟩ e ⟨h0,hN,hy,hP⟩
  dsimp only at h0 hN hy hP ⊢
  (repeat' first
    | (refine run_ite rfl (fun h=>?_) (fun h=>?_)<;>(try simp (disch:=omega) only [zB,eqDs,aT,Nat.reduceAdd,aC] at h)<;>(try (exfalso;omega)))
    | refine aF rfl ?_
    | refine aG rfl ?_
    | refine cE rfl (UG (ix l i) (sD hs h0 (by omega))) rfl ?_
    | (refine wZ rfl (Ep (sz:=4) h0 (by omega) (by omega) (fun _=>rfl) (Nat.le_of_ble_eq_true rfl)) (jE (aAv h0 (by omega))) ?_)
    | (refine aN rfl (Exists.intro (i+1,ys.set i.toNat (ix l i)) ⟨by dsimp only;omega,⟨by dsimp only;omega,by dsimp only;omega,by simpa using hy,yO h0 (by omega) hP⟩,aP (aC _ (by omega)),rfl,rfl,trivial⟩))
    | refine aB rfl ?_ ?_
    | (refine aE rfl ?_;first | refine rb ?_ | refine ri ?_ | refine aZ ?_ ?_ | refine aY ?_)
    | refine aD rfl ?_)
  · exact jE (by rw [lL hy (cW hP (by omega))])
theorem Pn (r:Rt)(hl:r.keys.length≤lim):FunOk PP W yD pG [LQ r] [LQ r]:=by
  refine RR (aH ?_)
  (repeat' first
    | (refine run_ite rfl (fun h=>?_) (fun h=>?_)<;>(try simp (disch:=omega) only [zB,eqDs,aT,Nat.reduceAdd,aC] at h)<;>(try (exfalso;omega)))
    | refine aF rfl ?_
    | refine aG rfl ?_
    | refine aA rfl (Ay r.keys hl) rfl ?_
    | refine aB rfl ?_ ?_
    | (refine aE rfl ?_;first | refine rb ?_ | refine ri ?_ | refine aZ ?_ ?_ | refine aY ?_)
    | refine aD rfl ?_)
  rfl
theorem Ym (m:Mt):FunOk PP W Ce tW [eMt m] [eMt m]:=by
  refine Rx (aH ?_)
  (repeat' first
    | (refine run_ite rfl (fun h=>?_) (fun h=>?_)<;>(try simp (disch:=omega) only [zB,eqDs,aT,Nat.reduceAdd,aC] at h)<;>(try (exfalso;omega)))
    | refine aF rfl ?_
    | refine aG rfl ?_
    | refine aB rfl ?_ ?_
    | (refine aE rfl ?_;first | refine rb ?_ | refine ri ?_ | refine aZ ?_ ?_ | refine aY ?_)
    | refine aD rfl ?_)
  rfl
theorem Vv (l:List Mt)(hl:l.length≤lim):FunOk PP W Aa qZ [BU l] [BU l]:=by
  refine PG (aH ?_)
  unfold lim at hl
  (repeat' first
    | (refine run_ite rfl (fun h=>?_) (fun h=>?_)<;>(try simp (disch:=omega) only [zB,eqDs,aT,Nat.reduceAdd,aC] at h)<;>(try (exfalso;omega)))
    | refine aF rfl ?_
    | refine aG rfl ?_
    | refine aB rfl ?_ ?_
    | (refine aE rfl ?_;first | refine rb ?_ | refine ri ?_ | refine aZ ?_ ?_ | refine aY ?_)
    | refine aD rfl ?_)
  · simp [lim];omega
  refine aO rfl (fun x:Int×List Mt=>0≤x.1∧x.1≤l.length∧x.2.length=l.length∧mC x.1 (fun j=>ix x.2 j=ix l j)) (fun x=>[(4,.val (i64 x.1)),(3,.val (BU x.2)),(0,.val (BU l))]) (fun x=>(l.length - x.1).toNat) (0,List.replicate l.length ⟨0,0,0⟩) ⟨by omega,by simp,by simp,bB _⟩ ⟨rfl,jE (by simp),rfl,trivial⟩ rfl ?_
  rintro ⟨i,ys⟩ e ⟨h0,hN,hy,hP⟩
  dsimp only at h0 hN hy hP ⊢
  (repeat' first
    | (refine run_ite rfl (fun h=>?_) (fun h=>?_)<;>(try simp (disch:=omega) only [zB,eqDs,aT,Nat.reduceAdd,aC] at h)<;>(try (exfalso;omega)))
    | refine aF rfl ?_
    | refine aG rfl ?_
    | refine cE rfl (Ym (ix l i)) rfl ?_
    | (refine wZ rfl (Ep (sz:=3) h0 (by omega) (by omega) (fun _=>rfl) (Nat.le_of_ble_eq_true rfl)) (jE (aA4 h0 (by omega))) ?_)
    | (refine aN rfl (Exists.intro (i+1,ys.set i.toNat (ix l i)) ⟨by dsimp only;omega,⟨by dsimp only;omega,by dsimp only;omega,by simpa using hy,yO h0 (by omega) hP⟩,aP (aC _ (by omega)),rfl,rfl,trivial⟩))
    | refine aB rfl ?_ ?_
    | (refine aE rfl ?_;first | refine rb ?_ | refine ri ?_ | refine aZ ?_ ?_ | refine aY ?_)
    | refine aD rfl ?_)
  · exact jE (by rw [lL hy (cW hP (by omega))])
theorem LZ (x:Ix)(hl:x.ms.length≤lim):FunOk PP W vC nE [Mi x] [Mi x]:=by
  refine Oo (aH ?_)
  (repeat' first
    | (refine run_ite rfl (fun h=>?_) (fun h=>?_)<;>(try simp (disch:=omega) only [zB,eqDs,aT,Nat.reduceAdd,aC] at h)<;>(try (exfalso;omega)))
    | refine aF rfl ?_
    | refine aG rfl ?_
    | refine aA rfl (Vv x.ms hl) rfl ?_
    | refine aB rfl ?_ ?_
    | (refine aE rfl ?_;first | refine rb ?_ | refine ri ?_ | refine aZ ?_ ?_ | refine aY ?_)
    | refine aD rfl ?_)
  rfl
theorem Vw (t:Tu)(hk:t.r.keys.length≤lim)(hl:t.x.ms.length≤lim):FunOk PP W AS qR [eTu t] [eTu t]:=by
  refine OY (aH ?_)
  (repeat' first
    | (refine run_ite rfl (fun h=>?_) (fun h=>?_)<;>(try simp (disch:=omega) only [zB,eqDs,aT,Nat.reduceAdd,aC] at h)<;>(try (exfalso;omega)))
    | refine aF rfl ?_
    | refine aG rfl ?_
    | refine aA rfl (Pn t.r hk) rfl ?_
    | refine aA rfl (LZ t.x hl) rfl ?_
    | refine aB rfl ?_ ?_
    | (refine aE rfl ?_;first | refine rb ?_ | refine ri ?_ | refine aZ ?_ ?_ | refine aY ?_)
    | refine aD rfl ?_)
  rfl
theorem Yn (d:Dk)(hs:SmD d):FunOk PP W CT tL [Yv d] [Yv d]:=by
  refine Qt (aH ?_)
  (repeat' first
    | (refine run_ite rfl (fun h=>?_) (fun h=>?_)<;>(try simp (disch:=omega) only [zB,eqDs,aT,Nat.reduceAdd,aC] at h)<;>(try (exfalso;omega)))
    | refine aF rfl ?_
    | refine aG rfl ?_
    | refine aA rfl (EF d.db hs.1) rfl ?_
    | refine aA rfl (Ay d.files hs.2.1) rfl ?_
    | refine aA rfl (EF d.jour hs.2.2) rfl ?_
    | refine aB rfl ?_ ?_
    | (refine aE rfl ?_;first | refine rb ?_ | refine ri ?_ | refine aZ ?_ ?_ | refine aY ?_)
    | refine aD rfl ?_)
  rfl
end
section
open Classical
variable {W:Wld}

theorem UH {α:Type}{f:α→Int}(hf:∀ x,0≤f x):∀ {xs:List α} {x:α},x∈xs→f x≤dX f xs
 | y::r,x,h=>by
  have h1:=dV hf r
  have h2:=hf y
  simp only [dX,List.map_cons,List.sum_cons] at *
  rcases List.mem_cons.1 h with e | h'
  ·rw [e];omega
  ·have:=UH hf h'
   simp only [dX] at this
   omega
theorem HE {ps:List Pk}(h:mA ps≤1073741824):SmPs ps:=by
 have hn:=dV vL ps
 unfold mA at h
 refine ⟨by unfold lim;omega,fun p hp=>?_⟩
 have:=UH vL hp
 have e:cP p=p.files.length+p.deps.length:=rfl
 exact ⟨by unfold lim;omega,by unfold lim;omega⟩
theorem Sn (d:Dk):0≤szD d:=by
 have:=mG d.db
 have:=mG d.jour
 unfold szD
 omega
end
section
open Classical
variable {W:Wld}

def cR (s:SR):Int:=s.keys.length+s.sigs.length
def cX (s:SX):Int:=s.ms.length+s.sigs.length
theorem Bz (s:SR):0≤cR s:=by unfold cR;omega
theorem CB (s:SX):0≤cX s:=by unfold cX;omega
def uO (l:List SR):Int:=l.length+dX cR l
def xD (l:List SX):Int:=l.length+dX cX l
theorem Mr (l:List SR):0≤uO l:=by have:=dV Bz l;unfold uO;omega
theorem Ms (l:List SX):0≤xD l:=by have:=dV CB l;unfold xD;omega
def BgR (s:SR):Prop:=(s.keys.length:Int)≤mx∧(s.sigs.length:Int)≤mx
def BgX (s:SX):Prop:=(s.ms.length:Int)≤mx∧(s.sigs.length:Int)≤mx
def Jj (t:Tu):Int:=t.r.keys.length+t.x.ms.length
def Yx (w:Wo):Int:=uO w.roots+xD w.ixs+mA w.pkgs+w.bad.length+Jj w.tr+mA w.store+szD w.dk
def szV (e:Vt):Int:=cP e.pkg+cR e.root+cX e.ix
structure BgW (w:Wo):Prop where
  roots:(w.roots.length:Int)≤mx∧∀ s∈w.roots,BgR s
  ixs:(w.ixs.length:Int)≤mx∧∀ s∈w.ixs,BgX s
  pkgs:BgPs w.pkgs
  bad:(w.bad.length:Int)≤mx
  keys:(w.tr.r.keys.length:Int)≤mx
  ms:(w.tr.x.ms.length:Int)≤mx
  store:BgPs w.store
  dk:BgD w.dk
structure BgV (e:Vt):Prop where
  pkg:BgP e.pkg
  root:BgR e.root
  ix:BgX e.ix
theorem Po (t:Tu)(left:Int)(h:0≤left∧left≤1048576)(hb:(t.r.keys.length:Int)≤mx∧(t.x.ms.length:Int)≤mx):FunOk PP W uZ nB [eTu t,i64 left] [i64 (yP left (Jj t))]:=SN t left h hb.1 hb.2
theorem EG (s:SR)(left:Int)(h:0≤left∧left≤1048576)(hb:BgR s):FunOk PP W pQ iT [eSR s,i64 left] [i64 (yP left (cR s))]:=by
  refine Ju (aH ?_)
  unfold cR
  have e0:(uH s).keys.length=s.keys.length:=rfl
  have f0:=LR (W:=W) (uH s) (left) (by omega) hb.1
  by_cases c0:left<s.keys.length
  · rw [aV c0] at f0
    (repeat' first
    | (refine run_ite rfl (fun h=>?_) (fun h=>?_)<;>(try simp (disch:=omega) only [zB,eqDs,aT,Nat.reduceAdd,aC] at h)<;>(try (exfalso;omega)))
    | refine aF rfl ?_
    | refine aG rfl ?_
    | refine aA rfl (f0) rfl ?_
    | refine aB rfl ?_ ?_
    | (refine aE rfl ?_;first | refine rb ?_ | refine ri ?_ | refine aZ ?_ ?_ | refine aY ?_)
    | refine aD rfl ?_)
    rw [aV (by omega)]
  rw [bL (by omega)] at f0
  have f1:=xB (W:=W) s.sigs (left - s.keys.length) (by omega) hb.2
  by_cases c1:left - s.keys.length<s.sigs.length
  · rw [aV c1] at f1
    (repeat' first
    | (refine run_ite rfl (fun h=>?_) (fun h=>?_)<;>(try simp (disch:=omega) only [zB,eqDs,aT,Nat.reduceAdd,aC] at h)<;>(try (exfalso;omega)))
    | refine aF rfl ?_
    | refine aG rfl ?_
    | refine aA rfl (f0) rfl ?_
    | refine aA rfl (f1) rfl ?_
    | refine aB rfl ?_ ?_
    | (refine aE rfl ?_;first | refine rb ?_ | refine ri ?_ | refine aZ ?_ ?_ | refine aY ?_)
    | refine aD rfl ?_)
    rw [aV (by omega)]
  rw [bL (by omega)] at f1
  (repeat' first
    | (refine run_ite rfl (fun h=>?_) (fun h=>?_)<;>(try simp (disch:=omega) only [zB,eqDs,aT,Nat.reduceAdd,aC] at h)<;>(try (exfalso;omega)))
    | refine aF rfl ?_
    | refine aG rfl ?_
    | refine aA rfl (f0) rfl ?_
    | refine aA rfl (f1) rfl ?_
    | refine aB rfl ?_ ?_
    | (refine aE rfl ?_;first | refine rb ?_ | refine ri ?_ | refine aZ ?_ ?_ | refine aY ?_)
    | refine aD rfl ?_)
  rw [bL (by omega)];omega
theorem KL (l:List SR)(left:Int)(h:0≤left∧left≤1048576)(hb:(l.length:Int)≤mx∧∀ s∈l,BgR s):FunOk PP W sX jV [[.sl (l.map eSR)],i64 left] [i64 (yP left (uO l))]:=by
  refine IK (aH ?_)
  obtain ⟨b1,b2⟩:=hb
  unfold mx at b1
  have hnn:=dV Bz l
  (repeat' first
    | (refine run_ite rfl (fun h=>?_) (fun h=>?_)<;>(try simp (disch:=omega) only [zB,eqDs,aT,Nat.reduceAdd,aC] at h)<;>(try (exfalso;omega)))
    | refine aF rfl ?_
    | refine aG rfl ?_
    | refine aB rfl ?_ ?_
    | (refine aE rfl ?_;first | refine rb ?_ | refine ri ?_ | refine aZ ?_ ?_ | refine aY ?_)
    | refine aD rfl ?_)
  · rw [aV (by unfold uO;omega)]
  rename_i h'
  refine aO rfl (fun i:Int=>0≤i∧i≤l.length∧0≤left - l.length - dX cR (l.take i.toNat)) (fun i=>[(5,.val (i64 i)),(1,.val (i64 (left - l.length - dX cR (l.take i.toNat)))),(0,.val [.sl (l.map eSR)])]) (fun i=>(l.length - i).toNat) 0 ⟨by omega,by omega,by simp [dX];omega⟩ ⟨rfl,aP (by rw [List.length_map,aC _ (by omega)];simp [dX]),rfl,trivial⟩ rfl ?_
  rintro i e ⟨h0,hN,hP⟩
  have hs:=dV Bz (l.take i.toNat)
  by_cases hi:i<l.length
  · have f:=EG (W:=W) (ix l i) (left - l.length - dX cR (l.take i.toNat)) (by omega) (b2 _ (dO h0 hi))
    have ht:=pN cR l h0 hi
    have hle:=BL Bz l (i+1).toNat
    have hc:=Bz (ix l i)
    by_cases c:left - l.length - dX cR (l.take i.toNat)<cR (ix l i)
    · rw [aV c] at f
      (repeat' first
    | (refine run_ite rfl (fun h=>?_) (fun h=>?_)<;>(try simp (disch:=omega) only [zB,eqDs,aT,Nat.reduceAdd,aC] at h)<;>(try (exfalso;omega)))
    | refine aF rfl ?_
    | refine aG rfl ?_
    | refine cE rfl (f) rfl ?_
    | refine aB rfl ?_ ?_
    | (refine aE rfl ?_;first | refine rb ?_ | refine ri ?_ | refine aZ ?_ ?_ | refine aY ?_)
    | refine aD rfl ?_)
      rw [aV (by unfold uO;omega)]
    · rw [bL (by omega)] at f
      (repeat' first
    | (refine run_ite rfl (fun h=>?_) (fun h=>?_)<;>(try simp (disch:=omega) only [zB,eqDs,aT,Nat.reduceAdd,aC] at h)<;>(try (exfalso;omega)))
    | refine aF rfl ?_
    | refine aG rfl ?_
    | refine cE rfl (f) rfl ?_
    | (refine aN rfl (Exists.intro (i+1) ⟨by omega,⟨by omega,by omega,by omega⟩,aP (aC _ (by omega)),aP (by omega),rfl,trivial⟩))
    | refine aB rfl ?_ ?_
    | (refine aE rfl ?_;first | refine rb ?_ | refine ri ?_ | refine aZ ?_ ?_ | refine aY ?_)
    | refine aD rfl ?_)
  · (repeat' first
    | (refine run_ite rfl (fun h=>?_) (fun h=>?_)<;>(try simp (disch:=omega) only [zB,eqDs,aT,Nat.reduceAdd,aC] at h)<;>(try (exfalso;omega)))
    | refine aF rfl ?_
    | refine aG rfl ?_
    | refine aB rfl ?_ ?_
    | (refine aE rfl ?_;first | refine rb ?_ | refine ri ?_ | refine aZ ?_ ?_ | refine aY ?_)
    | refine aD rfl ?_)
    rw [xA _ _ (by omega)] at hP
    rw [xA _ _ (by omega),bL (by unfold uO;omega)]
    unfold uO
    omega
theorem CC (s:SX)(left:Int)(h:0≤left∧left≤1048576)(hb:BgX s):FunOk PP W nU gX [eSX s,i64 left] [i64 (yP left (cX s))]:=by
  refine Ih (aH ?_)
  unfold cX
  have e0:(yQ s).ms.length=s.ms.length:=rfl
  have f0:=Je (W:=W) (yQ s) (left) (by omega) hb.1
  by_cases c0:left<s.ms.length
  · rw [aV c0] at f0
    (repeat' first
    | (refine run_ite rfl (fun h=>?_) (fun h=>?_)<;>(try simp (disch:=omega) only [zB,eqDs,aT,Nat.reduceAdd,aC] at h)<;>(try (exfalso;omega)))
    | refine aF rfl ?_
    | refine aG rfl ?_
    | refine aA rfl (f0) rfl ?_
    | refine aB rfl ?_ ?_
    | (refine aE rfl ?_;first | refine rb ?_ | refine ri ?_ | refine aZ ?_ ?_ | refine aY ?_)
    | refine aD rfl ?_)
    rw [aV (by omega)]
  rw [bL (by omega)] at f0
  have f1:=xB (W:=W) s.sigs (left - s.ms.length) (by omega) hb.2
  by_cases c1:left - s.ms.length<s.sigs.length
  · rw [aV c1] at f1
    (repeat' first
    | (refine run_ite rfl (fun h=>?_) (fun h=>?_)<;>(try simp (disch:=omega) only [zB,eqDs,aT,Nat.reduceAdd,aC] at h)<;>(try (exfalso;omega)))
    | refine aF rfl ?_
    | refine aG rfl ?_
    | refine aA rfl (f0) rfl ?_
    | refine aA rfl (f1) rfl ?_
    | refine aB rfl ?_ ?_
    | (refine aE rfl ?_;first | refine rb ?_ | refine ri ?_ | refine aZ ?_ ?_ | refine aY ?_)
    | refine aD rfl ?_)
    rw [aV (by omega)]
  rw [bL (by omega)] at f1
  (repeat' first
    | (refine run_ite rfl (fun h=>?_) (fun h=>?_)<;>(try simp (disch:=omega) only [zB,eqDs,aT,Nat.reduceAdd,aC] at h)<;>(try (exfalso;omega)))
    | refine aF rfl ?_
    | refine aG rfl ?_
    | refine aA rfl (f0) rfl ?_
    | refine aA rfl (f1) rfl ?_
    | refine aB rfl ?_ ?_
    | (refine aE rfl ?_;first | refine rb ?_ | refine ri ?_ | refine aZ ?_ ?_ | refine aY ?_)
    | refine aD rfl ?_)
  rw [bL (by omega)];omega
theorem Jk (l:List SX)(left:Int)(h:0≤left∧left≤1048576)(hb:(l.length:Int)≤mx∧∀ s∈l,BgX s):FunOk PP W rI iI [[.sl (l.map eSX)],i64 left] [i64 (yP left (xD l))]:=by
  refine GV (aH ?_)
  obtain ⟨b1,b2⟩:=hb
  unfold mx at b1
  have hnn:=dV CB l
  (repeat' first
    | (refine run_ite rfl (fun h=>?_) (fun h=>?_)<;>(try simp (disch:=omega) only [zB,eqDs,aT,Nat.reduceAdd,aC] at h)<;>(try (exfalso;omega)))
    | refine aF rfl ?_
    | refine aG rfl ?_
    | refine aB rfl ?_ ?_
    | (refine aE rfl ?_;first | refine rb ?_ | refine ri ?_ | refine aZ ?_ ?_ | refine aY ?_)
    | refine aD rfl ?_)
  · rw [aV (by unfold xD;omega)]
  rename_i h'
  refine aO rfl (fun i:Int=>0≤i∧i≤l.length∧0≤left - l.length - dX cX (l.take i.toNat)) (fun i=>[(5,.val (i64 i)),(1,.val (i64 (left - l.length - dX cX (l.take i.toNat)))),(0,.val [.sl (l.map eSX)])]) (fun i=>(l.length - i).toNat) 0 ⟨by omega,by omega,by simp [dX];omega⟩ ⟨rfl,aP (by rw [List.length_map,aC _ (by omega)];simp [dX]),rfl,trivial⟩ rfl ?_
  rintro i e ⟨h0,hN,hP⟩
  have hs:=dV CB (l.take i.toNat)
  by_cases hi:i<l.length
  · have f:=CC (W:=W) (ix l i) (left - l.length - dX cX (l.take i.toNat)) (by omega) (b2 _ (dO h0 hi))
    have ht:=pN cX l h0 hi
    have hle:=BL CB l (i+1).toNat
    have hc:=CB (ix l i)
    by_cases c:left - l.length - dX cX (l.take i.toNat)<cX (ix l i)
    · rw [aV c] at f
      (repeat' first
    | (refine run_ite rfl (fun h=>?_) (fun h=>?_)<;>(try simp (disch:=omega) only [zB,eqDs,aT,Nat.reduceAdd,aC] at h)<;>(try (exfalso;omega)))
    | refine aF rfl ?_
    | refine aG rfl ?_
    | refine cE rfl (f) rfl ?_
    | refine aB rfl ?_ ?_
    | (refine aE rfl ?_;first | refine rb ?_ | refine ri ?_ | refine aZ ?_ ?_ | refine aY ?_)
    | refine aD rfl ?_)
      rw [aV (by unfold xD;omega)]
    · rw [bL (by omega)] at f
      (repeat' first
    | (refine run_ite rfl (fun h=>?_) (fun h=>?_)<;>(try simp (disch:=omega) only [zB,eqDs,aT,Nat.reduceAdd,aC] at h)<;>(try (exfalso;omega)))
    | refine aF rfl ?_
    | refine aG rfl ?_
    | refine cE rfl (f) rfl ?_
    | (refine aN rfl (Exists.intro (i+1) ⟨by omega,⟨by omega,by omega,by omega⟩,aP (aC _ (by omega)),aP (by omega),rfl,trivial⟩))
    | refine aB rfl ?_ ?_
    | (refine aE rfl ?_;first | refine rb ?_ | refine ri ?_ | refine aZ ?_ ?_ | refine aY ?_)
    | refine aD rfl ?_)
  · (repeat' first
    | (refine run_ite rfl (fun h=>?_) (fun h=>?_)<;>(try simp (disch:=omega) only [zB,eqDs,aT,Nat.reduceAdd,aC] at h)<;>(try (exfalso;omega)))
    | refine aF rfl ?_
    | refine aG rfl ?_
    | refine aB rfl ?_ ?_
    | (refine aE rfl ?_;first | refine rb ?_ | refine ri ?_ | refine aZ ?_ ?_ | refine aY ?_)
    | refine aD rfl ?_)
    rw [xA _ _ (by omega)] at hP
    rw [xA _ _ (by omega),bL (by unfold xD;omega)]
    unfold xD
    omega
set_option maxHeartbeats 2000000 in
theorem So (w:Wo)(left:Int)(h:0≤left∧left≤1048576)(hb:BgW w):FunOk PP W AL qK [sO w,i64 left] [i64 (yP left (Yx w))]:=by
  refine Ny (aH ?_)
  unfold Yx
  have n0:=Mr w.roots
  have n1:=Ms w.ixs
  have n2:=mG w.pkgs
  have n3:=mG w.store
  have n4:=Sn w.dk
  have n5:0≤Jj w.tr:=by unfold Jj;omega
  have f0:=KL (W:=W) w.roots (left) (by omega) hb.roots
  by_cases c0:left<uO w.roots
  · rw [aV c0] at f0
    (repeat' first
    | (refine run_ite rfl (fun h=>?_) (fun h=>?_)<;>(try simp (disch:=omega) only [zB,eqDs,aT,Nat.reduceAdd,aC] at h)<;>(try (exfalso;omega)))
    | refine aF rfl ?_
    | refine aG rfl ?_
    | refine aA rfl (f0) rfl ?_
    | refine aB rfl ?_ ?_
    | (refine aE rfl ?_;first | refine rb ?_ | refine ri ?_ | refine aZ ?_ ?_ | refine aY ?_)
    | refine aD rfl ?_)
    rw [aV (by omega)]
  rw [bL (by omega)] at f0
  have f1:=Jk (W:=W) w.ixs (left - uO w.roots) (by omega) hb.ixs
  by_cases c1:left - uO w.roots<xD w.ixs
  · rw [aV c1] at f1
    (repeat' first
    | (refine run_ite rfl (fun h=>?_) (fun h=>?_)<;>(try simp (disch:=omega) only [zB,eqDs,aT,Nat.reduceAdd,aC] at h)<;>(try (exfalso;omega)))
    | refine aF rfl ?_
    | refine aG rfl ?_
    | refine aA rfl (f0) rfl ?_
    | refine aA rfl (f1) rfl ?_
    | refine aB rfl ?_ ?_
    | (refine aE rfl ?_;first | refine rb ?_ | refine ri ?_ | refine aZ ?_ ?_ | refine aY ?_)
    | refine aD rfl ?_)
    rw [aV (by omega)]
  rw [bL (by omega)] at f1
  have f2:=BM (W:=W) w.pkgs (left - uO w.roots - xD w.ixs) (by omega) hb.pkgs
  by_cases c2:left - uO w.roots - xD w.ixs<mA w.pkgs
  · rw [aV c2] at f2
    (repeat' first
    | (refine run_ite rfl (fun h=>?_) (fun h=>?_)<;>(try simp (disch:=omega) only [zB,eqDs,aT,Nat.reduceAdd,aC] at h)<;>(try (exfalso;omega)))
    | refine aF rfl ?_
    | refine aG rfl ?_
    | refine aA rfl (f0) rfl ?_
    | refine aA rfl (f1) rfl ?_
    | refine aA rfl (f2) rfl ?_
    | refine aB rfl ?_ ?_
    | (refine aE rfl ?_;first | refine rb ?_ | refine ri ?_ | refine aZ ?_ ?_ | refine aY ?_)
    | refine aD rfl ?_)
    rw [aV (by omega)]
  rw [bL (by omega)] at f2
  have f3:=xB (W:=W) w.bad (left - uO w.roots - xD w.ixs - mA w.pkgs) (by omega) hb.bad
  by_cases c3:left - uO w.roots - xD w.ixs - mA w.pkgs<w.bad.length
  · rw [aV c3] at f3
    (repeat' first
    | (refine run_ite rfl (fun h=>?_) (fun h=>?_)<;>(try simp (disch:=omega) only [zB,eqDs,aT,Nat.reduceAdd,aC] at h)<;>(try (exfalso;omega)))
    | refine aF rfl ?_
    | refine aG rfl ?_
    | refine aA rfl (f0) rfl ?_
    | refine aA rfl (f1) rfl ?_
    | refine aA rfl (f2) rfl ?_
    | refine aA rfl (f3) rfl ?_
    | refine aB rfl ?_ ?_
    | (refine aE rfl ?_;first | refine rb ?_ | refine ri ?_ | refine aZ ?_ ?_ | refine aY ?_)
    | refine aD rfl ?_)
    rw [aV (by omega)]
  rw [bL (by omega)] at f3
  have f4:=Po (W:=W) w.tr (left - uO w.roots - xD w.ixs - mA w.pkgs - w.bad.length) (by omega) ⟨hb.keys,hb.ms⟩
  by_cases c4:left - uO w.roots - xD w.ixs - mA w.pkgs - w.bad.length<Jj w.tr
  · rw [aV c4] at f4
    (repeat' first
    | (refine run_ite rfl (fun h=>?_) (fun h=>?_)<;>(try simp (disch:=omega) only [zB,eqDs,aT,Nat.reduceAdd,aC] at h)<;>(try (exfalso;omega)))
    | refine aF rfl ?_
    | refine aG rfl ?_
    | refine aA rfl (f0) rfl ?_
    | refine aA rfl (f1) rfl ?_
    | refine aA rfl (f2) rfl ?_
    | refine aA rfl (f3) rfl ?_
    | refine aA rfl (f4) rfl ?_
    | refine aB rfl ?_ ?_
    | (refine aE rfl ?_;first | refine rb ?_ | refine ri ?_ | refine aZ ?_ ?_ | refine aY ?_)
    | refine aD rfl ?_)
    rw [aV (by omega)]
  rw [bL (by omega)] at f4
  have f5:=BM (W:=W) w.store (left - uO w.roots - xD w.ixs - mA w.pkgs - w.bad.length - Jj w.tr) (by omega) hb.store
  by_cases c5:left - uO w.roots - xD w.ixs - mA w.pkgs - w.bad.length - Jj w.tr<mA w.store
  · rw [aV c5] at f5
    (repeat' first
    | (refine run_ite rfl (fun h=>?_) (fun h=>?_)<;>(try simp (disch:=omega) only [zB,eqDs,aT,Nat.reduceAdd,aC] at h)<;>(try (exfalso;omega)))
    | refine aF rfl ?_
    | refine aG rfl ?_
    | refine aA rfl (f0) rfl ?_
    | refine aA rfl (f1) rfl ?_
    | refine aA rfl (f2) rfl ?_
    | refine aA rfl (f3) rfl ?_
    | refine aA rfl (f4) rfl ?_
    | refine aA rfl (f5) rfl ?_
    | refine aB rfl ?_ ?_
    | (refine aE rfl ?_;first | refine rb ?_ | refine ri ?_ | refine aZ ?_ ?_ | refine aY ?_)
    | refine aD rfl ?_)
    rw [aV (by omega)]
  rw [bL (by omega)] at f5
  have f6:=Vb (W:=W) w.dk (left - uO w.roots - xD w.ixs - mA w.pkgs - w.bad.length - Jj w.tr - mA w.store) (by omega) hb.dk
  by_cases c6:left - uO w.roots - xD w.ixs - mA w.pkgs - w.bad.length - Jj w.tr - mA w.store<szD w.dk
  · rw [aV c6] at f6
    (repeat' first
    | (refine run_ite rfl (fun h=>?_) (fun h=>?_)<;>(try simp (disch:=omega) only [zB,eqDs,aT,Nat.reduceAdd,aC] at h)<;>(try (exfalso;omega)))
    | refine aF rfl ?_
    | refine aG rfl ?_
    | refine aA rfl (f0) rfl ?_
    | refine aA rfl (f1) rfl ?_
    | refine aA rfl (f2) rfl ?_
    | refine aA rfl (f3) rfl ?_
    | refine aA rfl (f4) rfl ?_
    | refine aA rfl (f5) rfl ?_
    | refine aA rfl (f6) rfl ?_
    | refine aB rfl ?_ ?_
    | (refine aE rfl ?_;first | refine rb ?_ | refine ri ?_ | refine aZ ?_ ?_ | refine aY ?_)
    | refine aD rfl ?_)
    rw [aV (by omega)]
  rw [bL (by omega)] at f6
  (repeat' first
    | (refine run_ite rfl (fun h=>?_) (fun h=>?_)<;>(try simp (disch:=omega) only [zB,eqDs,aT,Nat.reduceAdd,aC] at h)<;>(try (exfalso;omega)))
    | refine aF rfl ?_
    | refine aG rfl ?_
    | refine aA rfl (f0) rfl ?_
    | refine aA rfl (f1) rfl ?_
    | refine aA rfl (f2) rfl ?_
    | refine aA rfl (f3) rfl ?_
    | refine aA rfl (f4) rfl ?_
    | refine aA rfl (f5) rfl ?_
    | refine aA rfl (f6) rfl ?_
    | refine aB rfl ?_ ?_
    | (refine aE rfl ?_;first | refine rb ?_ | refine ri ?_ | refine aZ ?_ ?_ | refine aY ?_)
    | refine aD rfl ?_)
  rw [bL (by omega)];omega
theorem Sp (e:Vt)(left:Int)(h:0≤left∧left≤1048576)(hb:BgV e):FunOk PP W AP qO [yR e,i64 left] [i64 (yP left (szV e))]:=by
  refine OJ (aH ?_)
  unfold szV
  have n0:=vL e.pkg
  have n1:=Bz e.root
  have n2:=CB e.ix
  have f0:=PU (W:=W) e.pkg (left) (by omega) hb.pkg
  by_cases c0:left<cP e.pkg
  · rw [aV c0] at f0
    (repeat' first
    | (refine run_ite rfl (fun h=>?_) (fun h=>?_)<;>(try simp (disch:=omega) only [zB,eqDs,aT,Nat.reduceAdd,aC] at h)<;>(try (exfalso;omega)))
    | refine aF rfl ?_
    | refine aG rfl ?_
    | refine aA rfl (f0) rfl ?_
    | refine aB rfl ?_ ?_
    | (refine aE rfl ?_;first | refine rb ?_ | refine ri ?_ | refine aZ ?_ ?_ | refine aY ?_)
    | refine aD rfl ?_)
    rw [aV (by omega)]
  rw [bL (by omega)] at f0
  have f1:=EG (W:=W) e.root (left - cP e.pkg) (by omega) hb.root
  by_cases c1:left - cP e.pkg<cR e.root
  · rw [aV c1] at f1
    (repeat' first
    | (refine run_ite rfl (fun h=>?_) (fun h=>?_)<;>(try simp (disch:=omega) only [zB,eqDs,aT,Nat.reduceAdd,aC] at h)<;>(try (exfalso;omega)))
    | refine aF rfl ?_
    | refine aG rfl ?_
    | refine aA rfl (f0) rfl ?_
    | refine aA rfl (f1) rfl ?_
    | refine aB rfl ?_ ?_
    | (refine aE rfl ?_;first | refine rb ?_ | refine ri ?_ | refine aZ ?_ ?_ | refine aY ?_)
    | refine aD rfl ?_)
    rw [aV (by omega)]
  rw [bL (by omega)] at f1
  have f2:=CC (W:=W) e.ix (left - cP e.pkg - cR e.root) (by omega) hb.ix
  by_cases c2:left - cP e.pkg - cR e.root<cX e.ix
  · rw [aV c2] at f2
    (repeat' first
    | (refine run_ite rfl (fun h=>?_) (fun h=>?_)<;>(try simp (disch:=omega) only [zB,eqDs,aT,Nat.reduceAdd,aC] at h)<;>(try (exfalso;omega)))
    | refine aF rfl ?_
    | refine aG rfl ?_
    | refine aA rfl (f0) rfl ?_
    | refine aA rfl (f1) rfl ?_
    | refine aA rfl (f2) rfl ?_
    | refine aB rfl ?_ ?_
    | (refine aE rfl ?_;first | refine rb ?_ | refine ri ?_ | refine aZ ?_ ?_ | refine aY ?_)
    | refine aD rfl ?_)
    rw [aV (by omega)]
  rw [bL (by omega)] at f2
  (repeat' first
    | (refine run_ite rfl (fun h=>?_) (fun h=>?_)<;>(try simp (disch:=omega) only [zB,eqDs,aT,Nat.reduceAdd,aC] at h)<;>(try (exfalso;omega)))
    | refine aF rfl ?_
    | refine aG rfl ?_
    | refine aA rfl (f0) rfl ?_
    | refine aA rfl (f1) rfl ?_
    | refine aA rfl (f2) rfl ?_
    | refine aB rfl ?_ ?_
    | (refine aE rfl ?_;first | refine rb ?_ | refine ri ?_ | refine aZ ?_ ?_ | refine aY ?_)
    | refine aD rfl ?_)
  rw [bL (by omega)];omega

/-! What is copied. -/
theorem aBq {xs ys:List SR}{i:Int}(h0:0≤i)(h2:i<ys.length):Ed (ys.map eSR) i 0 (eSR (ix xs i))=(ys.set i.toNat (ix xs i)).map eSR:=Dv h0 h2 rfl
theorem aBr {xs ys:List SX}{i:Int}(h0:0≤i)(h2:i<ys.length):Ed (ys.map eSX) i 0 (eSX (ix xs i))=(ys.set i.toNat (ix xs i)).map eSX:=Dv h0 h2 rfl
theorem GL (s:SR)(h:SmR s):FunOk PP W pR iU [eSR s] [eSR s]:=by
  refine Jw (aH ?_)
  (repeat' first
    | (refine run_ite rfl (fun h=>?_) (fun h=>?_)<;>(try simp (disch:=omega) only [zB,eqDs,aT,Nat.reduceAdd,aC] at h)<;>(try (exfalso;omega)))
    | refine aF rfl ?_
    | refine aG rfl ?_
    | refine aA rfl (Pn (uH s) h.1) rfl ?_
    | refine aA rfl (Ay s.sigs h.2) rfl ?_
    | refine aB rfl ?_ ?_
    | (refine aE rfl ?_;first | refine rb ?_ | refine ri ?_ | refine aZ ?_ ?_ | refine aY ?_)
    | refine aD rfl ?_)
  rfl
theorem Mu (l:List SR)(hl:l.length≤lim)(hs:∀ s∈l,SmR s):FunOk PP W tA kB [[.sl (l.map eSR)]] [[.sl (l.map eSR)]]:=by
  refine IV (aH ?_)
  unfold lim at hl
  (repeat' first
    | (refine run_ite rfl (fun h=>?_) (fun h=>?_)<;>(try simp (disch:=omega) only [zB,eqDs,aT,Nat.reduceAdd,aC] at h)<;>(try (exfalso;omega)))
    | refine aF rfl ?_
    | refine aG rfl ?_
    | refine aB rfl ?_ ?_
    | (refine aE rfl ?_;first | refine rb ?_ | refine ri ?_ | refine aZ ?_ ?_ | refine aY ?_)
    | refine aD rfl ?_)
  · simp [lim];omega
  refine aO rfl (fun x:Int×List SR=>0≤x.1∧x.1≤l.length∧x.2.length=l.length∧mC x.1 (fun j=>ix x.2 j=ix l j)) (fun x=>[(4,.val (i64 x.1)),(3,.val [.sl (x.2.map eSR)]),(0,.val [.sl (l.map eSR)])]) (fun x=>(l.length - x.1).toNat) (0,List.replicate l.length ⟨0,[],0,[]⟩) ⟨by omega,by simp,by simp,bB _⟩ ⟨rfl,jE (by simp),rfl,trivial⟩ rfl ?_
  rintro ⟨i,ys⟩ e ⟨h0,hN,hy,hP⟩
  dsimp only at h0 hN hy hP ⊢
  (repeat' first
    | (refine run_ite rfl (fun h=>?_) (fun h=>?_)<;>(try simp (disch:=omega) only [zB,eqDs,aT,Nat.reduceAdd,aC] at h)<;>(try (exfalso;omega)))
    | refine aF rfl ?_
    | refine aG rfl ?_
    | refine cE rfl (GL (ix l i) (hs _ (dO h0 (by assumption)))) rfl ?_
    | (refine wZ rfl (Ep (sz:=4) h0 (by omega) (by omega) (fun _=>rfl) (Nat.le_of_ble_eq_true rfl)) (jE (aBq h0 (by omega))) ?_)
    | (refine aN rfl (Exists.intro (i+1,ys.set i.toNat (ix l i)) ⟨by dsimp only;omega,⟨by dsimp only;omega,by dsimp only;omega,by simpa using hy,yO h0 (by omega) hP⟩,aP (aC _ (by omega)),rfl,rfl,trivial⟩))
    | refine aB rfl ?_ ?_
    | (refine aE rfl ?_;first | refine rb ?_ | refine ri ?_ | refine aZ ?_ ?_ | refine aY ?_)
    | refine aD rfl ?_)
  · exact jE (by rw [lL hy (cW hP (by omega))])
def SmX (s:SX):Prop:=s.ms.length≤lim∧s.sigs.length≤lim
theorem EH (s:SX)(h:SmX s):FunOk PP W nV gY [eSX s] [eSX s]:=by
  refine Ik (aH ?_)
  (repeat' first
    | (refine run_ite rfl (fun h=>?_) (fun h=>?_)<;>(try simp (disch:=omega) only [zB,eqDs,aT,Nat.reduceAdd,aC] at h)<;>(try (exfalso;omega)))
    | refine aF rfl ?_
    | refine aG rfl ?_
    | refine aA rfl (LZ (yQ s) h.1) rfl ?_
    | refine aA rfl (Ay s.sigs h.2) rfl ?_
    | refine aB rfl ?_ ?_
    | (refine aE rfl ?_;first | refine rb ?_ | refine ri ?_ | refine aZ ?_ ?_ | refine aY ?_)
    | refine aD rfl ?_)
  rfl
theorem KM (l:List SX)(hl:l.length≤lim)(hs:∀ s∈l,SmX s):FunOk PP W rJ iJ [[.sl (l.map eSX)]] [[.sl (l.map eSX)]]:=by
  refine GX (aH ?_)
  unfold lim at hl
  (repeat' first
    | (refine run_ite rfl (fun h=>?_) (fun h=>?_)<;>(try simp (disch:=omega) only [zB,eqDs,aT,Nat.reduceAdd,aC] at h)<;>(try (exfalso;omega)))
    | refine aF rfl ?_
    | refine aG rfl ?_
    | refine aB rfl ?_ ?_
    | (refine aE rfl ?_;first | refine rb ?_ | refine ri ?_ | refine aZ ?_ ?_ | refine aY ?_)
    | refine aD rfl ?_)
  · simp [lim];omega
  refine aO rfl (fun x:Int×List SX=>0≤x.1∧x.1≤l.length∧x.2.length=l.length∧mC x.1 (fun j=>ix x.2 j=ix l j)) (fun x=>[(4,.val (i64 x.1)),(3,.val [.sl (x.2.map eSX)]),(0,.val [.sl (l.map eSX)])]) (fun x=>(l.length - x.1).toNat) (0,List.replicate l.length ⟨0,0,[],[]⟩) ⟨by omega,by simp,by simp,bB _⟩ ⟨rfl,jE (by simp),rfl,trivial⟩ rfl ?_
  rintro ⟨i,ys⟩ e ⟨h0,hN,hy,hP⟩
  dsimp only at h0 hN hy hP ⊢
  (repeat' first
    | (refine run_ite rfl (fun h=>?_) (fun h=>?_)<;>(try simp (disch:=omega) only [zB,eqDs,aT,Nat.reduceAdd,aC] at h)<;>(try (exfalso;omega)))
    | refine aF rfl ?_
    | refine aG rfl ?_
    | refine cE rfl (EH (ix l i) (hs _ (dO h0 (by assumption)))) rfl ?_
    | (refine wZ rfl (Ep (sz:=4) h0 (by omega) (by omega) (fun _=>rfl) (Nat.le_of_ble_eq_true rfl)) (jE (aBr h0 (by omega))) ?_)
    | (refine aN rfl (Exists.intro (i+1,ys.set i.toNat (ix l i)) ⟨by dsimp only;omega,⟨by dsimp only;omega,by dsimp only;omega,by simpa using hy,yO h0 (by omega) hP⟩,aP (aC _ (by omega)),rfl,rfl,trivial⟩))
    | refine aB rfl ?_ ?_
    | (refine aE rfl ?_;first | refine rb ?_ | refine ri ?_ | refine aZ ?_ ?_ | refine aY ?_)
    | refine aD rfl ?_)
  · exact jE (by rw [lL hy (cW hP (by omega))])
theorem Mv {s:SR}(h:BdR s):SmR s:=⟨bX h.1,bX h.2⟩
theorem Mw {s:SX}(h:BdX s):SmX s:=⟨bX h.1,bX h.2⟩
theorem Vx (w:Wo)(h:BdW w):FunOk PP W qE jT [sO w] [sO w]:=by
  refine OC (aH ?_)
  (repeat' first
    | (refine run_ite rfl (fun h=>?_) (fun h=>?_)<;>(try simp (disch:=omega) only [zB,eqDs,aT,Nat.reduceAdd,aC] at h)<;>(try (exfalso;omega)))
    | refine aF rfl ?_
    | refine aG rfl ?_
    | refine aA rfl (Mu w.roots (vM h.roots.1) (fun s hs=>Mv (h.roots.2 s hs))) rfl ?_
    | refine aA rfl (KM w.ixs (vM h.ixs.1) (fun s hs=>Mw (h.ixs.2 s hs))) rfl ?_
    | refine aA rfl (EF w.pkgs h.pkgs.1) rfl ?_
    | refine aA rfl (Ay w.bad (bX h.bad)) rfl ?_
    | refine aA rfl (Vw w.tr (bX h.keys) (bX h.ms)) rfl ?_
    | refine aA rfl (EF w.store h.store.1) rfl ?_
    | refine aA rfl (Yn w.dk h.dk.1) rfl ?_
    | refine aB rfl ?_ ?_
    | (refine aE rfl ?_;first | refine rb ?_ | refine ri ?_ | refine aZ ?_ ?_ | refine aY ?_)
    | refine aD rfl ?_)
  rfl
structure SmV (e:Vt):Prop where
  pkg:SmP e.pkg
  root:BdR e.root
  ix:BdX e.ix
theorem Vy (e:Vt)(h:SmV e):FunOk PP W qF jU [yR e] [yR e]:=by
  refine OL (aH ?_)
  (repeat' first
    | (refine run_ite rfl (fun h=>?_) (fun h=>?_)<;>(try simp (disch:=omega) only [zB,eqDs,aT,Nat.reduceAdd,aC] at h)<;>(try (exfalso;omega)))
    | refine aF rfl ?_
    | refine aG rfl ?_
    | refine aA rfl (UG e.pkg h.pkg) rfl ?_
    | refine aA rfl (GL e.root (Mv h.root)) rfl ?_
    | refine aA rfl (EH e.ix (Mw h.ix)) rfl ?_
    | refine aB rfl ?_ ?_
    | (refine aE rfl ?_;first | refine rb ?_ | refine ri ?_ | refine aZ ?_ ?_ | refine aY ?_)
    | refine aD rfl ?_)
  rfl

/-! What is compared. -/
theorem zE (s:SX)(hs:SmX s):FunOk PP W nW gZ [eSX s,eSX s] [bo true]:=by
  refine Im (aH ?_)
  have f:=EB (W:=W) (yQ s) hs.1
  (repeat' first
    | (refine run_ite rfl (fun h=>?_) (fun h=>?_)<;>(try simp (disch:=omega) only [zB,eqDs,aT,Nat.reduceAdd,aC] at h)<;>(try (exfalso;omega)))
    | refine aF rfl ?_
    | refine aG rfl ?_
    | refine aA rfl (f) rfl ?_
    | refine aA rfl (Au s.sigs hs.2) rfl ?_
    | refine aB rfl ?_ ?_
    | (refine aE rfl ?_;first | refine rb ?_ | refine ri ?_ | refine aZ ?_ ?_ | refine aY ?_)
    | refine aD rfl ?_)
  all_goals first | rfl | exact absurd trivial (by assumption)
theorem FA (l:List SX)(hl:l.length≤lim)(hs:∀ s∈l,SmX s):FunOk PP W rK iK [[.sl (l.map eSX)],[.sl (l.map eSX)]] [bo true]:=by
  refine GZ (aH ?_)
  unfold lim at hl
  (repeat' first
    | (refine run_ite rfl (fun h=>?_) (fun h=>?_)<;>(try simp (disch:=omega) only [zB,eqDs,aT,Nat.reduceAdd,aC] at h)<;>(try (exfalso;omega)))
    | refine aF rfl ?_
    | refine aG rfl ?_
    | refine aB rfl ?_ ?_
    | (refine aE rfl ?_;first | refine rb ?_ | refine ri ?_ | refine aZ ?_ ?_ | refine aY ?_)
    | refine aD rfl ?_)
  · exact absurd trivial (by assumption)
  refine aO rfl (fun i:Int=>0≤i∧i≤l.length) (fun i=>[(5,.val (i64 i)),(0,.val [.sl (l.map eSX)]),(1,.val [.sl (l.map eSX)])]) (fun i=>(l.length - i).toNat) 0 ⟨by omega,by omega⟩ ⟨rfl,rfl,rfl,trivial⟩ rfl ?_
  rintro i e ⟨h0,hN⟩
  by_cases hi:i<l.length
  · (repeat' first
    | (refine run_ite rfl (fun h=>?_) (fun h=>?_)<;>(try simp (disch:=omega) only [zB,eqDs,aT,Nat.reduceAdd,aC] at h)<;>(try (exfalso;omega)))
    | refine aF rfl ?_
    | refine aG rfl ?_
    | refine cE rfl (zE (ix l i) (hs _ (dO h0 hi))) rfl ?_
    | (refine aN rfl (Exists.intro (i+1) ⟨by omega,⟨by omega,by omega⟩,aP (aC _ (by omega)),rfl,rfl,trivial⟩))
    | refine aB rfl ?_ ?_
    | (refine aE rfl ?_;first | refine rb ?_ | refine ri ?_ | refine aZ ?_ ?_ | refine aY ?_)
    | refine aD rfl ?_)
    all_goals first | rfl | exact absurd trivial (by assumption)
  · (repeat' first
    | (refine run_ite rfl (fun h=>?_) (fun h=>?_)<;>(try simp (disch:=omega) only [zB,eqDs,aT,Nat.reduceAdd,aC] at h)<;>(try (exfalso;omega)))
    | refine aF rfl ?_
    | refine aG rfl ?_
    | refine aB rfl ?_ ?_
    | (refine aE rfl ?_;first | refine rb ?_ | refine ri ?_ | refine aZ ?_ ?_ | refine aY ?_)
    | refine aD rfl ?_)
    rfl
theorem GM (l:List Pk)(h:SmPs l):FunOk PP W mL iD [cK l,cK l] [bo true]:=by simpa using Er (W:=W) l l h
theorem Sq (p:Pk)(h:SmP p):FunOk PP W wP pC [ePk p,ePk p] [bo true]:=by simpa using PV (W:=W) p p h
theorem Pp (d:Dk)(h:SmD d):FunOk PP W xY pB [Yv d,Yv d] [bo true]:=by simpa using Vc (W:=W) d d h
theorem Mx (w:Wo)(hw:BdW w):FunOk PP W AO qN [sO w,sO w] [bo true]:=by
  refine OG (aH ?_)
  have f:=Vg (W:=W) w.tr (bX hw.keys) (bX hw.ms)
  (repeat' first
    | (refine run_ite rfl (fun h=>?_) (fun h=>?_)<;>(try simp (disch:=omega) only [zB,eqDs,aT,Nat.reduceAdd,aC] at h)<;>(try (exfalso;omega)))
    | refine aF rfl ?_
    | refine aG rfl ?_
    | refine aA rfl (Gn w.roots ⟨vM hw.roots.1,fun s hs=>Mv (hw.roots.2 s hs)⟩) rfl ?_
    | refine aA rfl (FA w.ixs (vM hw.ixs.1) (fun s hs=>Mw (hw.ixs.2 s hs))) rfl ?_
    | refine aA rfl (GM w.pkgs hw.pkgs.1) rfl ?_
    | refine aA rfl (Au w.bad (bX hw.bad)) rfl ?_
    | refine aA rfl (f) rfl ?_
    | refine aA rfl (GM w.store hw.store.1) rfl ?_
    | refine aA rfl (Pp w.dk hw.dk.1) rfl ?_
    | refine aB rfl ?_ ?_
    | (refine aE rfl ?_;first | refine rb ?_ | refine ri ?_ | refine aZ ?_ ?_ | refine aY ?_)
    | refine aD rfl ?_)
  all_goals first | rfl | exact absurd trivial (by assumption)
theorem My (e:Vt)(hw:SmV e):FunOk PP W AQ qP [yR e,yR e] [bo true]:=by
  refine ON (aH ?_)
  (repeat' first
    | (refine run_ite rfl (fun h=>?_) (fun h=>?_)<;>(try simp (disch:=omega) only [zB,eqDs,aT,Nat.reduceAdd,aC] at h)<;>(try (exfalso;omega)))
    | refine aF rfl ?_
    | refine aG rfl ?_
    | refine aA rfl (Sq e.pkg hw.pkg) rfl ?_
    | refine aA rfl (Av e.root (Mv hw.root)) rfl ?_
    | refine aA rfl (zE e.ix (Mw hw.ix)) rfl ?_
    | refine aB rfl ?_ ?_
    | (refine aE rfl ?_;first | refine rb ?_ | refine ri ?_ | refine aZ ?_ ?_ | refine aY ?_)
    | refine aD rfl ?_)
  all_goals first | rfl | exact absurd trivial (by assumption)
end
section
open Go.ChangeShapes Go.WideShapes Go.ChangeAt Go.RowKit

def Vz:Ck:= .int .i64 (.int .i64 .nil)
def WA:Ck:= .int .i64 (.int .i64 (.sl Vz (.sl Vz .nil)))
def Yo:Ck:= .int .i64 .nil
theorem lG {α:Type}{enc:α→List D}{Q:α→Prop}:∀ {xs:List (List D)},(∀ x∈xs,∃ a,x=enc a∧Q a)→∃ l:List α,xs=l.map enc∧∀ a∈l,Q a
 | [],_=>⟨[],rfl,fun a h=>by cases h⟩
 | x::xs,h=>by
  obtain ⟨a,rfl,h1⟩:=h x (List.mem_cons_self ..)
  obtain ⟨l,rfl,h2⟩:=lG (xs:=xs) (fun y hy=>h y (List.mem_cons_of_mem _ hy))
  exact ⟨a::l,rfl,fun b hb=>by rcases List.mem_cons.1 hb with rfl | hb;exact h1;exact h2 b hb⟩
theorem GN {n:Nat}(h:n≤maxLen):(n:Int)≤mx:=by
 unfold maxLen at h
 unfold mx
 omega
theorem aD8 {x:List D}(h:conf Yo x):∃ a:Int,x=i64 a∧True:=by
 obtain ⟨n,ds,rfl,_,h⟩:=h
 have:ds=[]:=h
 subst this
 exact ⟨n,rfl,trivial⟩
theorem Mz {x:List D}(h:conf Vz x):∃ a:P2,x=eP2 a∧True:=by
 obtain ⟨n,ds,rfl,_,m,ds',rfl,_,h⟩:=h
 have:ds'=[]:=h
 subst this
 exact ⟨⟨n,m⟩,rfl,trivial⟩
theorem aBs {x:List D}(h:conf WA x):∃ a:Pk,x=ePk a∧BgP a:=by
 obtain ⟨n,_,rfl,_,m,_,rfl,_,xs,_,rfl,h1,h2,ys,_,rfl,h3,h4,h⟩:=h
 have h:=(show _=[] from h)
 subst h
 obtain ⟨f,rfl,_⟩:=lG (fun x hx=>Mz (h2 x hx))
 obtain ⟨d,rfl,_⟩:=lG (fun x hx=>Mz (h4 x hx))
 rw [List.length_map] at h1 h3
 exact ⟨⟨n,m,f,d⟩,rfl,GN h1,GN h3⟩
theorem EI {xs:List (List D)}(hl:xs.length≤maxLen)(h:∀ x∈xs,conf WA x):∃ l:List Pk,xs=l.map ePk∧BgPs l:=by
 obtain ⟨l,rfl,h1⟩:=lG (fun x hx=>aBs (h x hx))
 rw [List.length_map] at hl
 exact ⟨l,rfl,GN hl,h1⟩
end
section
open Classical
variable {W:Wld}

theorem NA (w:Wo)(hs:BdW w)(hl:w.store.length≤2000000∧w.dk.db.length≤2000000∧w.dk.jour.length≤2000000):FunOk PP W lN fI [sO w] [bo (decide (RtIs w.roots w.tr.r∧(w.tr.has=true→XIs w.ixs w.tr.x)∧PubL w.pkgs w.store∧PubL w.pkgs w.dk.db∧PubL w.pkgs w.dk.jour))]:=by
  refine Ba (aH ?_)
  have hb1:=Ex hs.roots.2
  have hb2:=Ey hs.ixs.2
  have hsm:∀ i,SmP (ix (w.store++w.dk.db++w.dk.jour) i):=Tx (P:=SmP) (fun p hp=>by
    rcases List.mem_append.1 hp with hp | hp
    · rcases List.mem_append.1 hp with hp | hp
      · exact hs.store.1.2 p hp
      · exact hs.dk.1.1.2 p hp
    · exact hs.dk.1.2.2.2 p hp) ⟨Nat.zero_le _,Nat.zero_le _⟩
  have hll:(w.store++w.dk.db++w.dk.jour).length≤lim:=by simp only [List.length_append];unfold lim;omega
  (repeat' first
    | (refine run_ite rfl (fun h=>?_) (fun h=>?_)<;>(try simp (disch:=omega) only [zB,eqDs,aT,Nat.reduceAdd,aC] at h)<;>(try (exfalso;omega)))
    | refine aF rfl ?_
    | refine aG rfl ?_
    | refine aA rfl (Sa w w.roots (vM hs.roots.1) hs hb1) rfl ?_
    | refine aA rfl (Sc w w.ixs (vM hs.ixs.1) hb2) rfl ?_
    | refine aA rfl (Vs w.store w.dk.db w.dk.jour hl.1 hl.2.1 hl.2.2) rfl ?_
    | refine aA rfl (Se w (w.store++w.dk.db++w.dk.jour) hll hs hsm) rfl ?_
    | refine aB rfl ?_ ?_
    | (refine aE rfl ?_;first | refine rb ?_ | refine ri ?_ | refine aZ ?_ ?_ | refine aY ?_)
    | refine aD rfl ?_)
  all_goals first
    | exact fD (p:=RtIs w.roots w.tr.r∧(w.tr.has=true→XIs w.ixs w.tr.x)∧PubL w.pkgs w.store∧PubL w.pkgs w.dk.db∧PubL w.pkgs w.dk.jour) (fun h'=>h h'.1)
    | exact fD (p:=RtIs w.roots w.tr.r∧(w.tr.has=true→XIs w.ixs w.tr.x)∧PubL w.pkgs w.store∧PubL w.pkgs w.dk.db∧PubL w.pkgs w.dk.jour) (fun h'=>h (h'.2.1 (by assumption)))
    | exact SQ (p:=RtIs w.roots w.tr.r∧(w.tr.has=true→XIs w.ixs w.tr.x)∧PubL w.pkgs w.store∧PubL w.pkgs w.dk.db∧PubL w.pkgs w.dk.jour) (by
        rw [Bool.not_eq_true',decide_eq_false_iff_not]
        constructor
        · intro hn
          have hm:∀ p∈w.store++w.dk.db++w.dk.jour,p∈w.pkgs:=fun p hp=>Classical.byContradiction fun hq=>hn ⟨p,hp,hq⟩
          exact ⟨by assumption,fun hh=>by first | assumption | (simp_all;done),fun p hp=>hm p (List.mem_append_left _ (List.mem_append_left _ hp)),fun p hp=>hm p (List.mem_append_left _ (List.mem_append_right _ hp)),fun p hp=>hm p (List.mem_append_right _ hp)⟩
        · rintro ⟨_,_,h3,h4,h5⟩ ⟨p,hp,hq⟩
          refine hq ?_
          rcases List.mem_append.1 hp with hp | hp
          · exact (List.mem_append.1 hp).elim (h3 p) (h4 p)
          · exact h5 p hp)
   
set_option maxHeartbeats 4000000 in
theorem Pq (w:Wo)(hs:BdW w)(hl:w.store.length≤2000000∧w.dk.db.length≤2000000∧w.dk.jour.length≤2000000):FunOk PP W AN qM [sO w] [bo (decide (WoM w))]:=by
  refine OE (aH ?_)
  (repeat' first
    | (refine run_ite rfl (fun h=>?_) (fun h=>?_)<;>(try simp (disch:=omega) only [zB,eqDs,aT,Nat.reduceAdd,aC] at h)<;>(try (exfalso;omega)))
    | refine aF rfl ?_
    | refine aG rfl ?_
    | refine aA rfl (GD ..) rfl ?_
    | refine aA rfl (mR w.bad (bX hs.bad)) rfl ?_
    | refine aA rfl (Vn w hs (by assumption)) rfl ?_
    | refine aA rfl (Pl w hs (by assumption)) rfl ?_
    | refine aA rfl (At w.pkgs hs.pkgs.1) rfl ?_
    | refine aA rfl (Pa w.tr (bX hs.keys) (bX hs.ms)) rfl ?_
    | refine aA rfl (At w.store hs.store.1) rfl ?_
    | refine aA rfl (SH w.dk hs.dk.1) rfl ?_
    | refine aA rfl (NA w hs hl) rfl ?_
    | refine aB rfl ?_ ?_
    | (refine aE rfl ?_;first | refine rb ?_ | refine ri ?_ | refine aZ ?_ ?_ | refine aY ?_)
    | refine aD rfl ?_)
  all_goals first
    | exact fD (p:=WoM w) (fun h'=>by
        first | exact h h'.now | exact h h'.bad | exact h h'.roots | exact h h'.ixs | exact h h'.pkgs | (have:=h'.many;omega) | exact h h'.tr | exact h h'.store | exact h h'.dk)
    | exact decide_eq_decide.2 ⟨fun h'=>⟨by assumption,by assumption,by assumption,by assumption,by assumption,by omega,by assumption,by assumption,by assumption,h'.1,h'.2.1,h'.2.2.1,h'.2.2.2.1,h'.2.2.2.2⟩,fun h'=>⟨h'.root,h'.index,h'.ps,h'.pdb,h'.pj⟩⟩
   
theorem NB (w:Wo)(e:Vt)(hs:BdW w)(hr:BdR e.root)(hx:BdX e.ix)(hl:w.store.length≤2000000∧w.dk.db.length≤2000000∧w.dk.jour.length≤2000000):FunOk PP W xW nZ [sO w,yR e] [bo (decide (LX w e))]:=by
  refine MJ (aH ?_)
  (repeat' first
    | (refine run_ite rfl (fun h=>?_) (fun h=>?_)<;>(try simp (disch:=omega) only [zB,eqDs,aT,Nat.reduceAdd,aC] at h)<;>(try (exfalso;omega)))
    | refine aF rfl ?_
    | refine aG rfl ?_
    | refine aA rfl (Pq w hs hl) rfl ?_
    | refine aA rfl (aD5 w e hs hr hx) rfl ?_
    | refine aB rfl ?_ ?_
    | (refine aE rfl ?_;first | refine rb ?_ | refine ri ?_ | refine aZ ?_ ?_ | refine aY ?_)
    | refine aD rfl ?_)
  · exact decide_eq_decide.2 ⟨fun h'=>⟨h,h'.1,h'.2⟩,fun h'=>⟨h'.2.1,h'.2.2⟩⟩
  · exact fD (p:=LX w e) (fun h'=>h h'.1)
end
section
open Classical
variable {W:Wld}

theorem Jl {α:Type}{f:α→Int}(hf:∀ x,0≤f x):∀ {l:List α} {x:α},x∈l→f x≤dX f l
  | a::l,x,h=>by
    have h0:=dV hf l
    have h1:=hf a
    simp only [dX,List.map_cons,List.sum_cons] at *
    rcases List.mem_cons.1 h with rfl | h
    · omega
    · have:=Jl hf h
      simp only [dX] at this
      omega
theorem NC {w:Wo}(h:Yx w≤1048576):BdW w:=by
  unfold Yx at h
  have n0:=Mr w.roots
  have n1:=Ms w.ixs
  have n2:=mG w.pkgs
  have n3:=mG w.store
  have n4:=Sn w.dk
  have n5:=mG w.dk.db
  have n6:=mG w.dk.jour
  have a1:=dV Bz w.roots
  have a2:=dV CB w.ixs
  have a3:=dV vL w.pkgs
  have a4:=dV vL w.store
  have a5:=dV vL w.dk.db
  have a6:=dV vL w.dk.jour
  unfold Jj uO xD szD at *
  have hpk:=HE (ps:=w.pkgs) (by omega)
  have hst:=HE (ps:=w.store) (by omega)
  have hdb:=HE (ps:=w.dk.db) (by omega)
  have hjr:=HE (ps:=w.dk.jour) (by omega)
  unfold mA at *
  refine ⟨⟨by omega,fun s hs=>?_⟩,⟨by omega,fun s hs=>?_⟩,⟨hpk,by omega⟩,by omega,by omega,by omega,⟨hst,by omega⟩,⟨⟨hdb,by unfold lim;omega,hjr⟩,by omega,by omega⟩⟩
  · have h1:=Jl Bz hs
    have h2:cR s=s.keys.length+s.sigs.length:=rfl
    exact ⟨by omega,by omega⟩
  · have h1:=Jl CB hs
    have h2:cX s=s.ms.length+s.sigs.length:=rfl
    exact ⟨by omega,by omega⟩
theorem aD9 {w:Wo}(h:Yx w≤1048576):w.store.length≤2000000∧w.dk.db.length≤2000000∧w.dk.jour.length≤2000000:=⟨(NC h).store.2,(NC h).dk.2.1,(NC h).dk.2.2⟩
theorem aEa {e:Vt}(h:szV e≤1048576):SmV e:=by
  unfold szV at h
  have n0:=vL e.pkg
  have n1:=Bz e.root
  have n2:=CB e.ix
  unfold cP cR cX at *
  exact ⟨⟨by unfold lim;omega,by unfold lim;omega⟩,⟨by omega,by omega⟩,⟨by omega,by omega⟩⟩
theorem aEb (w:Wo):0≤Yx w:=by
  have n0:=Mr w.roots
  have n1:=Ms w.ixs
  have n2:=mG w.pkgs
  have n3:=mG w.store
  have n4:=Sn w.dk
  unfold Yx Jj
  omega
theorem aEc (e:Vt):0≤szV e:=by
  have n0:=vL e.pkg
  have n1:=Bz e.root
  have n2:=CB e.ix
  unfold szV
  omega
theorem WB (w:Wo)(e:Vt)(hb:BgW w)(hv:BgV e):FunOk PP W rS lO [sO w,yR e] [bo true]:=by
  refine BW (aH ?_)
  have f:=So (W:=W) w 1048576 (by omega) hb
  have n0:=aEb w
  have n1:=aEc e
  by_cases c:1048576<Yx w
  · rw [aV c] at f
    (repeat' first
    | (refine run_ite rfl (fun h=>?_) (fun h=>?_)<;>(try simp (disch:=omega) only [zB,eqDs,aT,Nat.reduceAdd,aC] at h)<;>(try (exfalso;omega)))
    | refine aF rfl ?_
    | refine aG rfl ?_
    | refine aA rfl (f) rfl ?_
    | refine aB rfl ?_ ?_
    | (refine aE rfl ?_;first | refine rb ?_ | refine ri ?_ | refine aZ ?_ ?_ | refine aY ?_)
    | refine aD rfl ?_)
    rfl
  · rw [bL (by omega)] at f
    have hs:=NC (w:=w) (by omega)
    have hl:=aD9 (w:=w) (by omega)
    have f2:=Sp (W:=W) e (1048576 - Yx w) (by omega) hv
    by_cases c2:1048576 - Yx w<szV e
    · rw [aV c2] at f2
      (repeat' first
    | (refine run_ite rfl (fun h=>?_) (fun h=>?_)<;>(try simp (disch:=omega) only [zB,eqDs,aT,Nat.reduceAdd,aC] at h)<;>(try (exfalso;omega)))
    | refine aF rfl ?_
    | refine aG rfl ?_
    | refine aA rfl (f) rfl ?_
    | refine aA rfl (f2) rfl ?_
    | refine aB rfl ?_ ?_
    | (refine aE rfl ?_;first | refine rb ?_ | refine ri ?_ | refine aZ ?_ ?_ | refine aY ?_)
    | refine aD rfl ?_)
      rfl
    · rw [bL (by omega)] at f2
      have he:=aEa (e:=e) (by omega)
      have g1:=Mo (W:=W) w e hs he.root he.ix
      have g2:=NB (W:=W) w e hs he.root he.ix hl
      generalize decide (LX w e)=B at g1 g2
      (repeat' first
    | (refine run_ite rfl (fun h=>?_) (fun h=>?_)<;>(try simp (disch:=omega) only [zB,eqDs,aT,Nat.reduceAdd,aC] at h)<;>(try (exfalso;omega)))
    | refine aF rfl ?_
    | refine aG rfl ?_
    | refine aA rfl (f) rfl ?_
    | refine aA rfl (f2) rfl ?_
    | refine aA rfl (Vx w hs) rfl ?_
    | refine aA rfl (Vy e he) rfl ?_
    | refine aA rfl (g1) rfl ?_
    | refine aA rfl (g2) rfl ?_
    | refine aA rfl (Mx w hs) rfl ?_
    | refine aA rfl (My e he) rfl ?_
    | refine aB rfl ?_ ?_
    | (refine aE rfl ?_;first | refine rb ?_ | refine ri ?_ | refine aZ ?_ ?_ | refine aY ?_)
    | refine aD rfl ?_)
      all_goals first | rfl | exact absurd trivial (by assumption) | (simp_all;done)

/-! What comes in. -/
def Yp:Ck:= .int .i64 (.int .i64 (.int .i64 .nil))
def aFq:Ck:= .int .i64 (.sl Yo (.int .i64 (.sl Yo .nil)))
def aFr:Ck:= .int .i64 (.int .i64 (.sl Yp (.sl Yo .nil)))
def aGn:Ck:= .int .i64 (.sl aFq (.sl aFr (.sl WA (.sl Yo (.int .i64 (.sl Yo (.int .i64 (.bool (.int .i64 (.int .i64 (.sl Yp (.sl WA (.sl WA (.sl Yo (.bool (.sl WA .nil))))))))))))))))
def aGo:Ck:= .int .i64 (.int .i64 (.int .i64 (.int .i64 (.bool (.int .i64 (.int .i64 (.sl Vz (.sl Vz (.int .i64 (.sl Yo (.int .i64 (.sl Yo (.int .i64 (.int .i64 (.sl Yp (.sl Yo .nil))))))))))))))))
theorem aBt {x:List D}(h:conf Yp x):∃ a:Mt,x=eMt a∧True:=by
  obtain ⟨n,_,rfl,_,m,_,rfl,_,s,_,rfl,_,h⟩:=h
  have h:=(show _=[] from h)
  subst h
  exact ⟨⟨n,m,s⟩,rfl,trivial⟩
theorem sE {xs:List (List D)}(hl:xs.length≤maxLen)(h:∀ x∈xs,conf Yo x):∃ l:List Int,xs=l.map i64∧(l.length:Int)≤mx:=by
  obtain ⟨l,rfl,_⟩:=lG (fun x hx=>aD8 (h x hx))
  rw [List.length_map] at hl
  exact ⟨l,rfl,GN hl⟩
theorem Jm {xs:List (List D)}(hl:xs.length≤maxLen)(h:∀ x∈xs,conf Yp x):∃ l:List Mt,xs=l.map eMt∧(l.length:Int)≤mx:=by
  obtain ⟨l,rfl,_⟩:=lG (fun x hx=>aBt (h x hx))
  rw [List.length_map] at hl
  exact ⟨l,rfl,GN hl⟩
theorem Pr {xs:List (List D)}(hl:xs.length≤maxLen)(h:∀ x∈xs,conf Vz x):∃ l:List P2,xs=l.map eP2∧(l.length:Int)≤mx:=by
  obtain ⟨l,rfl,_⟩:=lG (fun x hx=>Mz (h x hx))
  rw [List.length_map] at hl
  exact ⟨l,rfl,GN hl⟩
theorem aBu {x:List D}(h:conf aFq x):∃ s:SR,x=eSR s∧BgR s:=by
  obtain ⟨n,_,rfl,_,ks,_,rfl,a1,a2,m,_,rfl,_,bs,_,rfl,b1,b2,h⟩:=h
  have h:=(show _=[] from h)
  subst h
  obtain ⟨ks,rfl,h1⟩:=sE a1 a2
  obtain ⟨bs,rfl,h2⟩:=sE b1 b2
  exact ⟨⟨n,ks,m,bs⟩,rfl,h1,h2⟩
theorem aBv {x:List D}(h:conf aFr x):∃ s:SX,x=eSX s∧BgX s:=by
  obtain ⟨n,_,rfl,_,m,_,rfl,_,ks,_,rfl,a1,a2,bs,_,rfl,b1,b2,h⟩:=h
  have h:=(show _=[] from h)
  subst h
  obtain ⟨ks,rfl,h1⟩:=Jm a1 a2
  obtain ⟨bs,rfl,h2⟩:=sE b1 b2
  exact ⟨⟨n,m,ks,bs⟩,rfl,h1,h2⟩
theorem aF4 {x:List D}(h:conf aGn x):∃ w:Wo,x=sO w∧BgW w:=by
  obtain ⟨now,_,rfl,_,rs,_,rfl,a1,a2,xs,_,rfl,b1,b2,ps,_,rfl,c1,c2,bad,_,rfl,d1,d2,n,_,rfl,_,ks,_,rfl,e1,e2,m,_,rfl,_,has,_,rfl,xn,_,rfl,_,xt,_,rfl,_,ms,_,rfl,f1,f2,st,_,rfl,g1,g2,db,_,rfl,h1,h2,fs,_,rfl,i1,i2,dh,_,rfl,jr,_,rfl,j1,j2,h⟩:=h
  have h:=(show _=[] from h)
  subst h
  obtain ⟨rs,rfl,q1⟩:=lG (fun x hx=>aBu (a2 x hx))
  obtain ⟨xs,rfl,q2⟩:=lG (fun x hx=>aBv (b2 x hx))
  obtain ⟨ps,rfl,q3⟩:=EI c1 c2
  obtain ⟨bad,rfl,q4⟩:=sE d1 d2
  obtain ⟨ks,rfl,q5⟩:=sE e1 e2
  obtain ⟨ms,rfl,q6⟩:=Jm f1 f2
  obtain ⟨st,rfl,q7⟩:=EI g1 g2
  obtain ⟨db,rfl,q8⟩:=EI h1 h2
  obtain ⟨fs,rfl,q9⟩:=sE i1 i2
  obtain ⟨jr,rfl,q10⟩:=EI j1 j2
  rw [List.length_map] at a1 b1
  exact ⟨⟨now,rs,xs,ps,bad,⟨⟨n,ks,m⟩,has,⟨xn,xt,ms⟩⟩,st,⟨db,fs,dh,jr⟩⟩,rfl,⟨⟨GN a1,q1⟩,⟨GN b1,q2⟩,q3,q4,q5,q6,q7,⟨q8,q9,q10⟩⟩⟩
theorem aF5 {x:List D}(h:conf aGo x):∃ e:Vt,x=yR e∧BgV e:=by
  obtain ⟨k,_,rfl,_,a,_,rfl,_,b,_,rfl,_,c,_,rfl,_,tn,_,rfl,pn,_,rfl,_,pv,_,rfl,_,fs,_,rfl,a1,a2,ds,_,rfl,b1,b2,rn,_,rfl,_,ks,_,rfl,c1,c2,nd,_,rfl,_,bs,_,rfl,d1,d2,xn,_,rfl,_,xt,_,rfl,_,ms,_,rfl,e1,e2,xb,_,rfl,f1,f2,h⟩:=h
  have h:=(show _=[] from h)
  subst h
  obtain ⟨fs,rfl,q1⟩:=Pr a1 a2
  obtain ⟨ds,rfl,q2⟩:=Pr b1 b2
  obtain ⟨ks,rfl,q3⟩:=sE c1 c2
  obtain ⟨bs,rfl,q4⟩:=sE d1 d2
  obtain ⟨ms,rfl,q5⟩:=Jm e1 e2
  obtain ⟨xb,rfl,q6⟩:=sE f1 f2
  exact ⟨⟨k,a,b,c,tn,⟨pn,pv,fs,ds⟩,⟨rn,ks,nd,bs⟩,⟨xn,xt,ms,xb⟩⟩,rfl,⟨⟨q1,q2⟩,⟨q3,q4⟩,⟨q5,q6⟩⟩⟩
end
end V
end Go.Proofs.YtgekfemnjphmbaaGreat
