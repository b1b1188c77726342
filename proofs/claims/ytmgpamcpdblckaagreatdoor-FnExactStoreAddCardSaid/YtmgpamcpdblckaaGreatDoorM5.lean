/-
Part 5 of the proof of the claimed statement (its last part holds the theorem, and says what is proved). Conditions: none.
-/
import Derived.Test.YtmgpamcpdblckaaGreatDoorM4
import Derived.Test.YtmgpamcpdblckaaGreatDoorChecked
import Derived.Tactics
import Derived.Tactics2
import Derived.WalkKit
import Derived.Below
import Derived.RegionTactic
import Derived.Lib.FrozenHead2
import Derived.Lib.OthersKept
import Derived.LoopTactic
import Derived.StillTailTactics
import Derived.Lib.SplitLaws
import Derived.Lib.IndexBytes
import Derived.Lib.IndexMore
import Derived.Lib.Atoi
import Derived.Lib.AtoiAll
import Derived.RowKit3
import Derived.Lib.AppendZerosOnto
import Derived.Laws.NewBlocks
import Derived.Shelf.Spec.SlicesInsert
set_option linter.all false
set_option maxRecDepth 100000
/-
Plain proofs: what the laws compare, mark and find marked: lists of numbers, files, packages.
-/
namespace Go.Proofs.YtmgpamcpdblckaaGreatDoor
namespace V
section
open Classical
variable {W:Wld}

theorem PF (a b:List Int)(ha:a.length≤lim):FunOk PP W wU kZ [HJ a,HJ b] [bo (decide (a=b))]:=by
 refine Lz (aI ?_)
 unfold lim at ha
 (repeat' first
  | (refine run_ite rfl (fun h=>?_) (fun h=>?_)<;>(try simp (disch:=omega) only [zB,eqDs,aZ,Nat.reduceAdd,aA] at h)<;>(try (exfalso;omega)))
  | refine aG rfl ?_
  | refine aH rfl ?_
  | refine aB rfl ?_ ?_
  | (refine aD rfl ?_;first | refine rb ?_ | refine ri ?_ | refine bI ?_ ?_ | refine bL ?_)
  | refine aC rfl ?_)
 ·exact fD (fun h'=>by simp_all)
 have hn:a.length=b.length:=by omega
 clear h
 refine aU rfl (fun i:Int=>0≤i∧i≤a.length∧mF i (fun j=>ix a j=ix b j)) (fun i=>[(5,.val (i64 i)),(0,.val (HJ a)),(1,.val (HJ b))]) (fun i=>(a.length - i).toNat) 0 ⟨by omega,by omega,bE _⟩ ⟨rfl,rfl,rfl,trivial⟩ rfl ?_
 rintro i e ⟨h0,hN,hP⟩
 (repeat' first
  | (refine run_ite rfl (fun h=>?_) (fun h=>?_)<;>(try simp (disch:=omega) only [zB,eqDs,aZ,Nat.reduceAdd,aA] at h)<;>(try (exfalso;omega)))
  | refine aG rfl ?_
  | refine aH rfl ?_
  | (refine aT rfl (Exists.intro (i+1) ⟨by omega,⟨by omega,by omega,cF hP (by assumption)⟩,aO (aA _ (by omega)),rfl,rfl,trivial⟩))
  | refine aB rfl ?_ ?_
  | (refine aD rfl ?_;first | refine rb ?_ | refine ri ?_ | refine bI ?_ ?_ | refine bL ?_)
  | refine aC rfl ?_)
 ·exact fD (fun h'=>by subst h';exact absurd rfl (by assumption))
 ·exact tD (gS hn (dF hP (by omega)))

theorem PG (p q:P2):FunOk PP W wY lB [eP2 p,eP2 q] [bo (decide (p=q))]:=by
 refine MD (aI ?_)
 (repeat' first
  | (refine run_ite rfl (fun h=>?_) (fun h=>?_)<;>(try simp (disch:=omega) only [zB,eqDs,aZ,Nat.reduceAdd,aA] at h)<;>(try (exfalso;omega)))
  | refine aG rfl ?_
  | refine aH rfl ?_
  | refine aB rfl ?_ ?_
  | (refine aD rfl ?_;first | refine rb ?_ | refine ri ?_ | refine bI ?_ ?_ | refine bL ?_)
  | refine aC rfl ?_)
 ·exact fD (fun h'=>by simp_all)
 ·exact fD (fun h'=>by simp_all)
 ·exact tD (Rh (by assumption) (by assumption))
theorem MK (a b:List P2)(ha:a.length≤lim):FunOk PP W tK jF [eT a,eT b] [bo (decide (a=b))]:=by
 refine Jr (aI ?_)
 unfold lim at ha
 (repeat' first
  | (refine run_ite rfl (fun h=>?_) (fun h=>?_)<;>(try simp (disch:=omega) only [zB,eqDs,aZ,Nat.reduceAdd,aA] at h)<;>(try (exfalso;omega)))
  | refine aG rfl ?_
  | refine aH rfl ?_
  | refine aB rfl ?_ ?_
  | (refine aD rfl ?_;first | refine rb ?_ | refine ri ?_ | refine bI ?_ ?_ | refine bL ?_)
  | refine aC rfl ?_)
 ·exact fD (fun h'=>by simp_all)
 have hn:a.length=b.length:=by omega
 clear h
 refine aU rfl (fun i:Int=>0≤i∧i≤a.length∧mF i (fun j=>ix a j=ix b j)) (fun i=>[(5,.val (i64 i)),(0,.val (eT a)),(1,.val (eT b))]) (fun i=>(a.length - i).toNat) 0 ⟨by omega,by omega,bE _⟩ ⟨rfl,rfl,rfl,trivial⟩ rfl ?_
 rintro i e ⟨h0,hN,hP⟩
 (repeat' first
  | (refine run_ite rfl (fun h=>?_) (fun h=>?_)<;>(try simp (disch:=omega) only [zB,eqDs,aZ,Nat.reduceAdd,aA] at h)<;>(try (exfalso;omega)))
  | refine aG rfl ?_
  | refine aH rfl ?_
  | refine iA rfl (PG (ix a i) (ix b i)) rfl ?_
  | (refine aT rfl (Exists.intro (i+1) ⟨by omega,⟨by omega,by omega,cF hP (by assumption)⟩,aO (aA _ (by omega)),rfl,rfl,trivial⟩))
  | refine aB rfl ?_ ?_
  | (refine aD rfl ?_;first | refine rb ?_ | refine ri ?_ | refine bI ?_ ?_ | refine bL ?_)
  | refine aC rfl ?_)
 ·exact fD (fun h'=>by subst h';exact absurd rfl (by assumption))
 ·exact tD (gS hn (dF hP (by omega)))

theorem Rr (p q:P2):FunOk PP W Aa nC [eP2 p,eP2 q] [bo (decide (p=q))]:=by
 refine Ov (aI ?_)
 (repeat' first
  | (refine run_ite rfl (fun h=>?_) (fun h=>?_)<;>(try simp (disch:=omega) only [zB,eqDs,aZ,Nat.reduceAdd,aA] at h)<;>(try (exfalso;omega)))
  | refine aG rfl ?_
  | refine aH rfl ?_
  | refine aB rfl ?_ ?_
  | (refine aD rfl ?_;first | refine rb ?_ | refine ri ?_ | refine bI ?_ ?_ | refine bL ?_)
  | refine aC rfl ?_)
 ·exact fD (fun h'=>by simp_all)
 ·exact fD (fun h'=>by simp_all)
 ·exact tD (Rh (by assumption) (by assumption))
theorem PH (a b:List P2)(ha:a.length≤lim):FunOk PP W wT kY [eT a,eT b] [bo (decide (a=b))]:=by
 refine Lx (aI ?_)
 unfold lim at ha
 (repeat' first
  | (refine run_ite rfl (fun h=>?_) (fun h=>?_)<;>(try simp (disch:=omega) only [zB,eqDs,aZ,Nat.reduceAdd,aA] at h)<;>(try (exfalso;omega)))
  | refine aG rfl ?_
  | refine aH rfl ?_
  | refine aB rfl ?_ ?_
  | (refine aD rfl ?_;first | refine rb ?_ | refine ri ?_ | refine bI ?_ ?_ | refine bL ?_)
  | refine aC rfl ?_)
 ·exact fD (fun h'=>by simp_all)
 have hn:a.length=b.length:=by omega
 clear h
 refine aU rfl (fun i:Int=>0≤i∧i≤a.length∧mF i (fun j=>ix a j=ix b j)) (fun i=>[(5,.val (i64 i)),(0,.val (eT a)),(1,.val (eT b))]) (fun i=>(a.length - i).toNat) 0 ⟨by omega,by omega,bE _⟩ ⟨rfl,rfl,rfl,trivial⟩ rfl ?_
 rintro i e ⟨h0,hN,hP⟩
 (repeat' first
  | (refine run_ite rfl (fun h=>?_) (fun h=>?_)<;>(try simp (disch:=omega) only [zB,eqDs,aZ,Nat.reduceAdd,aA] at h)<;>(try (exfalso;omega)))
  | refine aG rfl ?_
  | refine aH rfl ?_
  | refine iA rfl (Rr (ix a i) (ix b i)) rfl ?_
  | (refine aT rfl (Exists.intro (i+1) ⟨by omega,⟨by omega,by omega,cF hP (by assumption)⟩,aO (aA _ (by omega)),rfl,rfl,trivial⟩))
  | refine aB rfl ?_ ?_
  | (refine aD rfl ?_;first | refine rb ?_ | refine ri ?_ | refine bI ?_ ?_ | refine bL ?_)
  | refine aC rfl ?_)
 ·exact fD (fun h'=>by subst h';exact absurd rfl (by assumption))
 ·exact tD (gS hn (dF hP (by omega)))

theorem Rs (p q:Pk)(hs:SmP p):FunOk PP W AW mZ [ePk p,ePk q] [bo (decide (p=q))]:=by
 refine Og (aI ?_)
 obtain ⟨h1,h2⟩:=hs
 (repeat' first
  | (refine run_ite rfl (fun h=>?_) (fun h=>?_)<;>(try simp (disch:=omega) only [zB,eqDs,aZ,Nat.reduceAdd,aA] at h)<;>(try (exfalso;omega)))
  | refine aG rfl ?_
  | refine aH rfl ?_
  | refine aE rfl (MK p.files q.files h1) rfl ?_
  | refine aE rfl (PH p.deps q.deps h2) rfl ?_
  | refine aB rfl ?_ ?_
  | (refine aD rfl ?_;first | refine rb ?_ | refine ri ?_ | refine bI ?_ ?_ | refine bL ?_)
  | refine aC rfl ?_)
 ·exact fD (fun h'=>by simp_all)
 ·exact fD (fun h'=>by simp_all)
 ·exact fD (fun h'=>by subst h';exact absurd rfl (by assumption))
 ·exact fD (fun h'=>by subst h';exact absurd rfl (by assumption))
 ·exact tD (WP (by assumption) (by assumption) (by assumption) (by assumption))
theorem PI (a b:List Pk)(ha:uQ a):FunOk PP W iB dY [cJ a,cJ b] [bo (decide (a=b))]:=by
 refine LV (aI ?_)
 have hl:=ha.1
 unfold lim at hl
 (repeat' first
  | (refine run_ite rfl (fun h=>?_) (fun h=>?_)<;>(try simp (disch:=omega) only [zB,eqDs,aZ,Nat.reduceAdd,aA] at h)<;>(try (exfalso;omega)))
  | refine aG rfl ?_
  | refine aH rfl ?_
  | refine aB rfl ?_ ?_
  | (refine aD rfl ?_;first | refine rb ?_ | refine ri ?_ | refine bI ?_ ?_ | refine bL ?_)
  | refine aC rfl ?_)
 ·exact fD (fun h'=>by simp_all)
 have hn:a.length=b.length:=by omega
 clear h
 refine aU rfl (fun i:Int=>0≤i∧i≤a.length∧mF i (fun j=>ix a j=ix b j)) (fun i=>[(5,.val (i64 i)),(0,.val (cJ a)),(1,.val (cJ b))]) (fun i=>(a.length - i).toNat) 0 ⟨by omega,by omega,bE _⟩ ⟨rfl,rfl,rfl,trivial⟩ rfl ?_
 rintro i e ⟨h0,hN,hP⟩
 (repeat' first
  | (refine run_ite rfl (fun h=>?_) (fun h=>?_)<;>(try simp (disch:=omega) only [zB,eqDs,aZ,Nat.reduceAdd,aA] at h)<;>(try (exfalso;omega)))
  | refine aG rfl ?_
  | refine aH rfl ?_
  | refine iA rfl (Rs (ix a i) (ix b i) (uK ha (by omega) (by omega))) rfl ?_
  | (refine aT rfl (Exists.intro (i+1) ⟨by omega,⟨by omega,by omega,cF hP (by assumption)⟩,aO (aA _ (by omega)),rfl,rfl,trivial⟩))
  | refine aB rfl ?_ ?_
  | (refine aD rfl ?_;first | refine rb ?_ | refine ri ?_ | refine bI ?_ ?_ | refine bL ?_)
  | refine aC rfl ?_)
 ·exact fD (fun h'=>by subst h';exact absurd rfl (by assumption))
 ·exact tD (gS hn (dF hP (by omega)))

/-! What is marked. -/
def El (l:List Int)(k:Int):List Int:=(List.range l.length).map fun (j:Nat)=>k+(j:Int)
def gU (l:List P2)(k:Int):List P2:=(List.range l.length).map fun (j:Nat)=>⟨k+2*(j:Int),k+2*(j:Int)+1⟩
theorem PJ (l:List Int)(k:Int):(El l k).length=l.length:=by simp [El]
theorem nQ (l:List P2)(k:Int):(gU l k).length=l.length:=by simp [gU]
theorem zH {α:Type}[Inhabited α]{n:Nat}{f:Nat→α}{i:Int}(h0:0≤i)(h1:i<n):ix ((List.range n).map f) i=f i.toNat:=by
 have:i.toNat<n:=by omega
 simp [ix,this]
theorem Ru (l:List Int)(k:Int){i:Int}(h0:0≤i)(h1:i<l.length):ix (El l k) i=k+i:=by
 unfold El
 rw [zH h0 h1]
 omega
theorem Ak (l:List P2)(k:Int){i:Int}(h0:0≤i)(h1:i<l.length):ix (gU l k) i=⟨k+2*i,k+2*i+1⟩:=by
 unfold gU
 rw [zH h0 h1]
 simp only [show ((i.toNat:Nat):Int)=i by omega]
theorem zI {α:Type}[Inhabited α]{ys:List α}{f:Int→α}{i:Int}(h0:0≤i)(h1:i<ys.length)(h:mF i (fun j=>ix ys j=f j)):mF (i+1) (fun j=>ix (ys.set i.toNat (f i)) j=f j):=fun j j0 j1=>by
 show ix (ys.set i.toNat (f i)) j=f j
 rw [Hq h0 h1 j0]
 by_cases e:j=i
 ·rw [if_pos e,e]
 ·rw [if_neg e]
  exact h j j0 (by omega)

theorem KD (l:List Int)(k:Int)(h0:0≤k)(hk:k+l.length≤1099511627776):FunOk PP W qY fY [HJ l,i64 k] [i64 (k+l.length),HJ (El l k)]:=by
 refine EZ (aI ?_)
 (repeat' first
  | (refine run_ite rfl (fun h=>?_) (fun h=>?_)<;>(try simp (disch:=omega) only [zB,eqDs,aZ,Nat.reduceAdd,aA] at h)<;>(try (exfalso;omega)))
  | refine aG rfl ?_
  | refine aH rfl ?_
  | refine aB rfl ?_ ?_
  | (refine aD rfl ?_;first | refine rb ?_ | refine ri ?_ | refine bI ?_ ?_ | refine bL ?_)
  | refine aC rfl ?_)
 refine aU rfl (fun x:Int×List Int=>0≤x.1∧x.1≤l.length∧x.2.length=l.length∧mF x.1 (fun j=>ix x.2 j=k+j)) (fun x=>[(5,.val (i64 x.1)),(1,.val (i64 (k+x.1))),(0,.val (HJ x.2))]) (fun x=>(l.length - x.1).toNat) (0,l) ⟨by omega,by simp,rfl,bE _⟩ ⟨rfl,aO (by simp),rfl,trivial⟩ rfl ?_
 rintro ⟨i,ys⟩ e ⟨i0,hN,hy,hP⟩
 dsimp only at i0 hN hy hP ⊢
 (repeat' first
  | (refine run_ite rfl (fun h=>?_) (fun h=>?_)<;>(try simp (disch:=omega) only [zB,eqDs,aZ,Nat.reduceAdd,aA] at h)<;>(try (exfalso;omega)))
  | refine aG rfl ?_
  | refine aH rfl ?_
  | (refine aT rfl (Exists.intro (i+1,ys.set i.toNat (k+i)) ⟨by dsimp only;omega,⟨by dsimp only;omega,by dsimp only;omega,by simpa using hy,zI (f:=fun j=>k+j) i0 (by omega) hP⟩,aO (aA _ (by omega)),aO (by rw [aA _ (by omega)];dsimp only;omega),bU (VN i0 (by omega)),trivial⟩))
  | refine aB rfl ?_ ?_
  | (refine aD rfl ?_;first | refine rb ?_ | refine ri ?_ | refine bI ?_ ?_ | refine bL ?_)
  | refine aC rfl ?_)
 ·exact aO (by omega)
 ·refine bU ?_
  rw [gS (xs:=ys) (ys:=El l k) (by rw [PJ,hy]) (fun j j0 j1=>(hP j j0 (by omega)).trans (Ru l k j0 (by omega)).symm)]
theorem Hs (l:List P2)(k:Int)(h0:0≤k)(hk:k+2*l.length≤1099511627776):FunOk PP W pB eV [eT l,i64 k] [i64 (k+2*l.length),eT (gU l k)]:=by
 refine CM (aI ?_)
 (repeat' first
  | (refine run_ite rfl (fun h=>?_) (fun h=>?_)<;>(try simp (disch:=omega) only [zB,eqDs,aZ,Nat.reduceAdd,aA] at h)<;>(try (exfalso;omega)))
  | refine aG rfl ?_
  | refine aH rfl ?_
  | refine aB rfl ?_ ?_
  | (refine aD rfl ?_;first | refine rb ?_ | refine ri ?_ | refine bI ?_ ?_ | refine bL ?_)
  | refine aC rfl ?_)
 refine aU rfl (fun x:Int×List P2=>0≤x.1∧x.1≤l.length∧x.2.length=l.length∧mF x.1 (fun j=>ix x.2 j=⟨k+2*j,k+2*j+1⟩)) (fun x=>[(5,.val (i64 x.1)),(1,.val (i64 (k+2*x.1))),(0,.val (eT x.2))]) (fun x=>(l.length - x.1).toNat) (0,l) ⟨by omega,by simp,rfl,bE _⟩ ⟨rfl,aO (by simp),rfl,trivial⟩ rfl ?_
 rintro ⟨i,ys⟩ e ⟨i0,hN,hy,hP⟩
 dsimp only at i0 hN hy hP ⊢
 (repeat' first
  | (refine run_ite rfl (fun h=>?_) (fun h=>?_)<;>(try simp (disch:=omega) only [zB,eqDs,aZ,Nat.reduceAdd,aA] at h)<;>(try (exfalso;omega)))
  | refine aG rfl ?_
  | refine aH rfl ?_
  | (refine eG rfl (jZ (sz:=2) i0 (by first | omega | (simp only [List.length_set];omega)) (by first | omega | (simp only [List.length_set];omega)) (fun _=>rfl) (Nat.le_of_ble_eq_true rfl)) (bU (NW i0 (by omega))) ?_)
  | (refine eG rfl (jZ (sz:=2) i0 (by first | omega | (simp only [List.length_set];omega)) (by first | omega | (simp only [List.length_set];omega)) (fun _=>rfl) (Nat.le_of_ble_eq_true rfl)) (bU ((NX i0 (by first | omega | (simp only [List.length_set];omega))).trans (by rw [Ej i0 (by omega),List.set_set,aA _ (by omega)]))) ?_)
  | (refine aT rfl (Exists.intro (i+1,ys.set i.toNat ⟨k+2*i,k+2*i+1⟩) ⟨by dsimp only;omega,⟨by dsimp only;omega,by dsimp only;omega,by simpa using hy,zI (f:=fun j=>(⟨k+2*j,k+2*j+1⟩:P2)) i0 (by omega) hP⟩,aO (aA _ (by omega)),aO (by rw [aA (k+2*i+1) (by omega),aA _ (by omega)];dsimp only;omega),rfl,trivial⟩))
  | refine aB rfl ?_ ?_
  | (refine aD rfl ?_;first | refine rb ?_ | refine ri ?_ | refine bI ?_ ?_ | refine bL ?_)
  | refine aC rfl ?_)
 ·exact aO (by omega)
 ·refine bU ?_
  rw [gS (xs:=ys) (ys:=gU l k) (by rw [nQ,hy]) (fun j j0 j1=>(hP j j0 (by omega)).trans (Ak l k j0 (by omega)).symm)]
theorem Ht (l:List P2)(k:Int)(h0:0≤k)(hk:k+2*l.length≤1099511627776)(hh:mF l.length (fun j=>ix l j=⟨k+2*j,k+2*j+1⟩)):FunOk PP W pC fG [eT l,i64 k] [i64 (k+2*l.length)]:=by
 refine FI (aI ?_)
 (repeat' first
  | (refine run_ite rfl (fun h=>?_) (fun h=>?_)<;>(try simp (disch:=omega) only [zB,eqDs,aZ,Nat.reduceAdd,aA] at h)<;>(try (exfalso;omega)))
  | refine aG rfl ?_
  | refine aH rfl ?_
  | refine aB rfl ?_ ?_
  | (refine aD rfl ?_;first | refine rb ?_ | refine ri ?_ | refine bI ?_ ?_ | refine bL ?_)
  | refine aC rfl ?_)
 refine aU rfl (fun x:Int=>0≤x∧x≤l.length) (fun x=>[(5,.val (i64 x)),(1,.val (i64 (k+2*x))),(0,.val (eT l))]) (fun x=>(l.length - x).toNat) 0 ⟨by omega,by simp⟩ ⟨rfl,aO (by simp),rfl,trivial⟩ rfl ?_
 rintro i e ⟨i0,hN⟩
 by_cases hi:i<l.length
 ·have hx:ix l i=⟨k+2*i,k+2*i+1⟩:=hh i i0 hi
  have hxa:(ix l i).a=k+2*i:=by rw [hx]
  have hxb:(ix l i).b=k+2*i+1:=by rw [hx]
  (repeat' first
  | (refine run_ite rfl (fun h=>?_) (fun h=>?_)<;>(try simp (disch:=omega) only [zB,eqDs,aZ,Nat.reduceAdd,aA] at h)<;>(try (exfalso;omega)))
  | refine aG rfl ?_
  | refine aH rfl ?_
  | (refine aT rfl (Exists.intro (i+1) ⟨by omega,⟨by omega,by omega⟩,aO (aA _ (by omega)),aO (by rw [aA (k+2*i+1) (by omega),aA _ (by omega)];omega),rfl,trivial⟩))
  | refine aB rfl ?_ ?_
  | (refine aD rfl ?_;first | refine rb ?_ | refine ri ?_ | refine bI ?_ ?_ | refine bL ?_)
  | refine aC rfl ?_)
 ·(repeat' first
  | (refine run_ite rfl (fun h=>?_) (fun h=>?_)<;>(try simp (disch:=omega) only [zB,eqDs,aZ,Nat.reduceAdd,aA] at h)<;>(try (exfalso;omega)))
  | refine aG rfl ?_
  | refine aH rfl ?_
  | refine aB rfl ?_ ?_
  | (refine aD rfl ?_;first | refine rb ?_ | refine ri ?_ | refine bI ?_ ?_ | refine bL ?_)
  | refine aC rfl ?_)
  omega

theorem KE (l:List P2)(k:Int)(h0:0≤k)(hk:k+2*l.length≤1099511627776):FunOk PP W qU gA [eT l,i64 k] [i64 (k+2*l.length),eT (gU l k)]:=by
 refine Ed (aI ?_)
 (repeat' first
  | (refine run_ite rfl (fun h=>?_) (fun h=>?_)<;>(try simp (disch:=omega) only [zB,eqDs,aZ,Nat.reduceAdd,aA] at h)<;>(try (exfalso;omega)))
  | refine aG rfl ?_
  | refine aH rfl ?_
  | refine aB rfl ?_ ?_
  | (refine aD rfl ?_;first | refine rb ?_ | refine ri ?_ | refine bI ?_ ?_ | refine bL ?_)
  | refine aC rfl ?_)
 refine aU rfl (fun x:Int×List P2=>0≤x.1∧x.1≤l.length∧x.2.length=l.length∧mF x.1 (fun j=>ix x.2 j=⟨k+2*j,k+2*j+1⟩)) (fun x=>[(5,.val (i64 x.1)),(1,.val (i64 (k+2*x.1))),(0,.val (eT x.2))]) (fun x=>(l.length - x.1).toNat) (0,l) ⟨by omega,by simp,rfl,bE _⟩ ⟨rfl,aO (by simp),rfl,trivial⟩ rfl ?_
 rintro ⟨i,ys⟩ e ⟨i0,hN,hy,hP⟩
 dsimp only at i0 hN hy hP ⊢
 (repeat' first
  | (refine run_ite rfl (fun h=>?_) (fun h=>?_)<;>(try simp (disch:=omega) only [zB,eqDs,aZ,Nat.reduceAdd,aA] at h)<;>(try (exfalso;omega)))
  | refine aG rfl ?_
  | refine aH rfl ?_
  | (refine eG rfl (jZ (sz:=2) i0 (by first | omega | (simp only [List.length_set];omega)) (by first | omega | (simp only [List.length_set];omega)) (fun _=>rfl) (Nat.le_of_ble_eq_true rfl)) (bU (NW i0 (by omega))) ?_)
  | (refine eG rfl (jZ (sz:=2) i0 (by first | omega | (simp only [List.length_set];omega)) (by first | omega | (simp only [List.length_set];omega)) (fun _=>rfl) (Nat.le_of_ble_eq_true rfl)) (bU ((NX i0 (by first | omega | (simp only [List.length_set];omega))).trans (by rw [Ej i0 (by omega),List.set_set,aA _ (by omega)]))) ?_)
  | (refine aT rfl (Exists.intro (i+1,ys.set i.toNat ⟨k+2*i,k+2*i+1⟩) ⟨by dsimp only;omega,⟨by dsimp only;omega,by dsimp only;omega,by simpa using hy,zI (f:=fun j=>(⟨k+2*j,k+2*j+1⟩:P2)) i0 (by omega) hP⟩,aO (aA _ (by omega)),aO (by rw [aA (k+2*i+1) (by omega),aA _ (by omega)];dsimp only;omega),rfl,trivial⟩))
  | refine aB rfl ?_ ?_
  | (refine aD rfl ?_;first | refine rb ?_ | refine ri ?_ | refine bI ?_ ?_ | refine bL ?_)
  | refine aC rfl ?_)
 ·exact aO (by omega)
 ·refine bU ?_
  rw [gS (xs:=ys) (ys:=gU l k) (by rw [nQ,hy]) (fun j j0 j1=>(hP j j0 (by omega)).trans (Ak l k j0 (by omega)).symm)]
theorem KF (l:List P2)(k:Int)(h0:0≤k)(hk:k+2*l.length≤1099511627776)(hh:mF l.length (fun j=>ix l j=⟨k+2*j,k+2*j+1⟩)):FunOk PP W qV gM [eT l,i64 k] [i64 (k+2*l.length)]:=by
 refine HW (aI ?_)
 (repeat' first
  | (refine run_ite rfl (fun h=>?_) (fun h=>?_)<;>(try simp (disch:=omega) only [zB,eqDs,aZ,Nat.reduceAdd,aA] at h)<;>(try (exfalso;omega)))
  | refine aG rfl ?_
  | refine aH rfl ?_
  | refine aB rfl ?_ ?_
  | (refine aD rfl ?_;first | refine rb ?_ | refine ri ?_ | refine bI ?_ ?_ | refine bL ?_)
  | refine aC rfl ?_)
 refine aU rfl (fun x:Int=>0≤x∧x≤l.length) (fun x=>[(5,.val (i64 x)),(1,.val (i64 (k+2*x))),(0,.val (eT l))]) (fun x=>(l.length - x).toNat) 0 ⟨by omega,by simp⟩ ⟨rfl,aO (by simp),rfl,trivial⟩ rfl ?_
 rintro i e ⟨i0,hN⟩
 by_cases hi:i<l.length
 ·have hx:ix l i=⟨k+2*i,k+2*i+1⟩:=hh i i0 hi
  have hxa:(ix l i).a=k+2*i:=by rw [hx]
  have hxb:(ix l i).b=k+2*i+1:=by rw [hx]
  (repeat' first
  | (refine run_ite rfl (fun h=>?_) (fun h=>?_)<;>(try simp (disch:=omega) only [zB,eqDs,aZ,Nat.reduceAdd,aA] at h)<;>(try (exfalso;omega)))
  | refine aG rfl ?_
  | refine aH rfl ?_
  | (refine aT rfl (Exists.intro (i+1) ⟨by omega,⟨by omega,by omega⟩,aO (aA _ (by omega)),aO (by rw [aA (k+2*i+1) (by omega),aA _ (by omega)];omega),rfl,trivial⟩))
  | refine aB rfl ?_ ?_
  | (refine aD rfl ?_;first | refine rb ?_ | refine ri ?_ | refine bI ?_ ?_ | refine bL ?_)
  | refine aC rfl ?_)
 ·(repeat' first
  | (refine run_ite rfl (fun h=>?_) (fun h=>?_)<;>(try simp (disch:=omega) only [zB,eqDs,aZ,Nat.reduceAdd,aA] at h)<;>(try (exfalso;omega)))
  | refine aG rfl ?_
  | refine aH rfl ?_
  | refine aB rfl ?_ ?_
  | (refine aD rfl ?_;first | refine rb ?_ | refine ri ?_ | refine bI ?_ ?_ | refine bL ?_)
  | refine aC rfl ?_)
  omega
end
section
open Classical
variable {W:Wld}

def uR (p:Pk):Int:=2+2*p.files.length+2*p.deps.length
theorem Hu (p:Pk):0≤uR p:=by unfold uR;omega
def dH (ps:List Pk):Int:=fA uR ps
def tV (p:Pk)(k:Int):Pk:=⟨k,k+1,gU p.files (k+2),gU p.deps (k+2+2*p.files.length)⟩
def mA (l:List Pk)(k:Int):List Pk:=(List.range l.length).map fun (j:Nat)=>tV (ix l j) (k+dH (l.take j))
theorem nR (l:List Pk)(k:Int):(mA l k).length=l.length:=by simp [mA]
theorem Al (l:List Pk)(k:Int){i:Int}(h0:0≤i)(h1:i<l.length):ix (mA l k) i=tV (ix l i) (k+dH (l.take i.toNat)):=by
 unfold mA
 rw [zH h0 h1]
 simp only [show ((i.toNat:Nat):Int)=i by omega]
theorem PK (p:Pk)(k:Int):uR (tV p k)=uR p:=by simp [uR,tV,nQ]
theorem Rv {α:Type}[Inhabited α]{f:α→Int}{xs ys:List α}(hl:xs.length=ys.length)(h:mF xs.length (fun i=>f (ix xs i)=f (ix ys i))):fA f xs=fA f ys:=by
 unfold fA
 congr 1
 refine List.ext_getElem (by simp [hl]) (fun n h1 h2=>?_)
 have h1':n<xs.length:=by simpa using h1
 have h2':n<ys.length:=by simpa using h2
 have h3:f (ix xs (n:Int))=f (ix ys (n:Int)):=h n (by omega) (by omega)
 simpa [ix,h1',h2'] using h3
theorem KG {α:Type}[Inhabited α](xs:List α){n:Nat}{i:Int}(h0:0≤i)(h1:i<n):ix (xs.take n) i=ix xs i:=by
 have:i.toNat<n:=by omega
 simp only [ix,List.getD_eq_getElem?_getD]
 rw [List.getElem?_take_of_lt this]
theorem Em (l:List Pk)(k:Int)(n:Nat):dH ((mA l k).take n)=dH (l.take n):=by
 refine Rv (by simp [nR]) (fun i h0 h1=>?_)
 simp only [List.length_take,nR] at h1
 show uR _=uR _
 rw [KG _ h0 (by omega),KG _ h0 (by omega),Al l k h0 (by omega),PK]
theorem Bs (l:List Pk)(k:Int):dH (mA l k)=dH l:=by
 have:=Em l k l.length
 rwa [List.take_of_length_le (by rw [nR];exact Nat.le_refl _),List.take_of_length_le (Nat.le_refl _)] at this
theorem zJ (l:List Pk):0≤dH l:=mP Hu l

theorem Hv:∀ l:List Pk,2*(l.length:Int)≤dH l
 | []=>by simp [dH,fA]
 | p::r=>by
  have h:=Hv r
  simp only [dH,fA,List.map_cons,List.sum_cons,List.length_cons] at *
  have:uR p=2+2*p.files.length+2*p.deps.length:=rfl
  omega
theorem Hw {α:Type}[Inhabited α]{enc:α→List D}{ys:List α}{i:Int}{q:α}(h0:0≤i)(h1:i<ys.length):((ys.set i.toNat q).map enc)[i.toNat]? =some (enc q):=by
 have:i.toNat<ys.length:=by omega
 simp [this]
theorem Rw {α:Type}{enc:α→List D}{ys:List α}{i:Int}{q q':α}{j:Nat}{d:D}(h:(enc q).set j d=enc q'):([.sl ((ys.set i.toNat q).map enc)]:List D).set 0 (.sl (((ys.set i.toNat q).map enc).set i.toNat ((enc q).set j d)))=[.sl ((ys.set i.toNat q').map enc)]:=by
 rw [h,←List.map_set,List.set_set]
 rfl

theorem Rx {α:Type}[Inhabited α]{l ys:List α}{i:Int}{z:α}(h0:0≤i)(h1:i<ys.length)(h:∀ j,i≤j→ix ys j=ix l j):∀ j,i+1≤j→ix (ys.set i.toNat z) j=ix l j:=fun j hj=>by
 rw [Hq h0 h1 (by omega),if_neg (by omega)]
 exact h j (by omega)

theorem Bt (l:List Pk)(k:Int)(h0:0≤k)(hk:k+dH l≤1099511627776):FunOk PP W mM eD [cJ l,i64 k] [i64 (k+dH l),cJ (mA l k)]:=by
 refine Ef (aI ?_)
 have hlc:=Hv l
 (repeat' first
  | (refine run_ite rfl (fun h=>?_) (fun h=>?_)<;>(try simp (disch:=omega) only [zB,eqDs,aZ,Nat.reduceAdd,aA] at h)<;>(try (exfalso;omega)))
  | refine aG rfl ?_
  | refine aH rfl ?_
  | refine aB rfl ?_ ?_
  | (refine aD rfl ?_;first | refine rb ?_ | refine ri ?_ | refine bI ?_ ?_ | refine bL ?_)
  | refine aC rfl ?_)
 refine aU rfl (fun x:Int×List Pk=>0≤x.1∧x.1≤l.length∧x.2.length=l.length∧mF x.1 (fun j=>ix x.2 j=tV (ix l j) (k+dH (l.take j.toNat)))∧∀ j,x.1≤j→ix x.2 j=ix l j)
  (fun x=>[(5,.val (i64 x.1)),(1,.val (i64 (k+dH (l.take x.1.toNat)))),(0,.val (cJ x.2))]) (fun x=>(l.length - x.1).toNat) (0,l) ⟨by omega,by simp,rfl,bE _,fun _ _=>rfl⟩ ⟨rfl,aO (by simp [dH,fA]),rfl,trivial⟩ rfl ?_
 rintro ⟨i,ys⟩ e ⟨i0,hN,hy,hP,hI⟩
 dsimp only at i0 hN hy hP hI ⊢
 have hnn:0≤dH (l.take i.toNat):=zJ _
 by_cases hi:i<l.length
 ·have hix:ix ys i=ix l i:=hI i (by omega)
  have hle:=Hr Hu l (i+1).toNat
  have ht:=Aj uR l i0 hi
  have hc:uR (ix l i)=2+2*(ix l i).files.length+2*(ix l i).deps.length:=rfl
  simp only [show fA uR=dH from rfl] at hle ht
  generalize hK:k+dH (l.take i.toNat)=K at *
  have f1:=Hs (W:=W) (ix l i).files (K+2) (by omega) (by omega)
  have f2:=KE (W:=W) (ix l i).deps (K+2+2*(ix l i).files.length) (by omega) (by omega)
  (repeat' first
  | (refine run_ite rfl (fun h=>?_) (fun h=>?_)<;>(try simp (disch:=omega) only [zB,eqDs,aZ,Nat.reduceAdd,aA] at h)<;>(try (exfalso;omega)))
  | refine aG rfl ?_
  | refine aH rfl ?_
  | (refine eG rfl (jZ (sz:=4) i0 (by omega) (by omega) (fun _=>rfl) (Nat.le_of_ble_eq_true rfl)) (bU ((UQ i0 (by omega)).trans (by rw [hix]))) ?_)
  | (refine eG (c:=[.sl ((ys.set i.toNat ⟨K,K+1,(ix l i).files,(ix l i).deps⟩).map ePk)]) rfl (jZ (sz:=4) i0 (by simp only [List.length_set];omega) (by simp only [List.length_set];omega) (fun _=>rfl) (Nat.le_of_ble_eq_true rfl)) (bU ((UR i0 (by simp only [List.length_set];omega)).trans (by rw [Ej i0 (by omega),List.set_set,aA _ (by omega)]))) ?_)
  | (refine NR rfl rfl rfl (Hw i0 (by omega)) (Hw i0 (by omega)) rfl rfl f1 (aO (by rw [aA (K+1) (by omega),aA _ (by omega)];omega)) (Rw (q':=⟨K,K+1,gU (ix l i).files (K+2),(ix l i).deps⟩) rfl) ?_)
  | (refine NR rfl rfl rfl (Hw i0 (by omega)) (Hw i0 (by omega)) rfl rfl f2 rfl (Rw (q':=⟨K,K+1,gU (ix l i).files (K+2),gU (ix l i).deps (K+2+2*(ix l i).files.length)⟩) rfl) ?_)
  | (refine aT rfl (Exists.intro (i+1,ys.set i.toNat (tV (ix l i) K)) ⟨?_,⟨?_,?_,?_,?_,?_⟩,?_,?_,?_,trivial⟩))
  | refine aB rfl ?_ ?_
  | (refine aD rfl ?_;first | refine rb ?_ | refine ri ?_ | refine bI ?_ ?_ | refine bL ?_)
  | refine aC rfl ?_)
  ·dsimp only;omega
  ·dsimp only;omega
  ·dsimp only;omega
  ·simpa using hy
  ·subst hK
   exact zI (f:=fun j=>tV (ix l j) (k+dH (l.take j.toNat))) i0 (by omega) hP
  ·exact Rx i0 (by omega) hI
  ·exact aO (aA _ (by omega))
  ·exact aO (by dsimp only;omega)
  ·rfl
 ·(repeat' first
  | (refine run_ite rfl (fun h=>?_) (fun h=>?_)<;>(try simp (disch:=omega) only [zB,eqDs,aZ,Nat.reduceAdd,aA] at h)<;>(try (exfalso;omega)))
  | refine aG rfl ?_
  | refine aH rfl ?_
  | refine aB rfl ?_ ?_
  | (refine aD rfl ?_;first | refine rb ?_ | refine ri ?_ | refine bI ?_ ?_ | refine bL ?_)
  | refine aC rfl ?_)
  ·rw [List.take_of_length_le (by omega)]
  ·refine bU ?_
   rw [gS (xs:=ys) (ys:=mA l k) (by rw [nR,hy]) (fun j j0 j1=>(hP j j0 (by omega)).trans (Al l k j0 (by omega)).symm)]

def UW (l:List P2)(k:Int):Prop:=mF l.length (fun j=>ix l j=⟨k+2*j,k+2*j+1⟩)
def WR (p:Pk)(k:Int):Prop:=p.name=k∧p.ver=k+1∧UW p.files (k+2)∧UW p.deps (k+2+2*p.files.length)
def XV (l:List Pk)(k:Int):Prop:=mF l.length (fun j=>WR (ix l j) (k+dH (l.take j.toNat)))
theorem GY (l:List P2)(k:Int):UW (gU l k) k:=fun j j0 j1=>by
 rw [nQ] at j1
 exact Ak l k j0 j1
theorem PL (p:Pk)(k:Int):WR (tV p k) k:=⟨rfl,rfl,GY _ _,by
 show UW (gU p.deps (k+2+2*p.files.length)) (k+2+2*(gU p.files (k+2)).length)
 rw [nQ]
 exact GY _ _⟩
theorem PM (l:List Pk)(k:Int):XV (mA l k) k:=fun j j0 j1=>by
 rw [nR] at j1
 show WR (ix (mA l k) j) (k+dH ((mA l k).take j.toNat))
 rw [Em,Al l k j0 j1]
 exact PL _ _

theorem KH (l:List Pk)(k:Int)(h0:0≤k)(hk:k+dH l≤1099511627776)(hh:XV l k):FunOk PP W mN eO [cJ l,i64 k] [i64 (k+dH l)]:=by
 refine HU (aI ?_)
 have hlc:=Hv l
 (repeat' first
  | (refine run_ite rfl (fun h=>?_) (fun h=>?_)<;>(try simp (disch:=omega) only [zB,eqDs,aZ,Nat.reduceAdd,aA] at h)<;>(try (exfalso;omega)))
  | refine aG rfl ?_
  | refine aH rfl ?_
  | refine aB rfl ?_ ?_
  | (refine aD rfl ?_;first | refine rb ?_ | refine ri ?_ | refine bI ?_ ?_ | refine bL ?_)
  | refine aC rfl ?_)
 refine aU rfl (fun i:Int=>0≤i∧i≤l.length) (fun i=>[(5,.val (i64 i)),(1,.val (i64 (k+dH (l.take i.toNat)))),(0,.val (cJ l))]) (fun i=>(l.length - i).toNat) 0 ⟨by omega,by simp⟩ ⟨rfl,aO (by simp [dH,fA]),rfl,trivial⟩ rfl ?_
 rintro i e ⟨i0,hN⟩
 have hnn:0≤dH (l.take i.toNat):=zJ _
 by_cases hi:i<l.length
 ·have hle:=Hr Hu l (i+1).toNat
  have ht:=Aj uR l i0 hi
  have hc:uR (ix l i)=2+2*(ix l i).files.length+2*(ix l i).deps.length:=rfl
  simp only [show fA uR=dH from rfl] at hle ht
  obtain ⟨g1,g2,g3,g4⟩:=hh i i0 hi
  generalize hK:k+dH (l.take i.toNat)=K at *
  have f1:=Ht (W:=W) (ix l i).files (K+2) (by omega) (by omega) g3
  have f2:=KF (W:=W) (ix l i).deps (K+2+2*(ix l i).files.length) (by omega) (by omega) g4
  have w1:IntKind.i64.wrap (IntKind.i64.wrap (K+1)+1)=K+2:=by rw [aA (K+1) (by omega),aA _ (by omega)];omega
  (repeat' first
  | (refine run_ite rfl (fun h=>?_) (fun h=>?_)<;>(try simp (disch:=omega) only [zB,eqDs,aZ,Nat.reduceAdd,aA] at h)<;>(try (exfalso;omega)))
  | refine aG rfl ?_
  | refine aH rfl ?_
  | (refine wA rfl f1 (bI (bU (z5 _ _)) (aO w1)) rfl ?_)
  | (refine wA rfl f2 (bI (bU (z6 _ _)) rfl) rfl ?_)
  | (refine aT rfl (Exists.intro (i+1) ⟨by omega,⟨by omega,by omega⟩,aO (aA _ (by omega)),aO (by omega),rfl,trivial⟩))
  | refine aB rfl ?_ ?_
  | (refine aD rfl ?_;first | refine rb ?_ | refine ri ?_ | refine bI ?_ ?_ | refine bL ?_)
  | refine aC rfl ?_)
 ·(repeat' first
  | (refine run_ite rfl (fun h=>?_) (fun h=>?_)<;>(try simp (disch:=omega) only [zB,eqDs,aZ,Nat.reduceAdd,aA] at h)<;>(try (exfalso;omega)))
  | refine aG rfl ?_
  | refine aH rfl ?_
  | refine aB rfl ?_ ?_
  | (refine aD rfl ?_;first | refine rb ?_ | refine ri ?_ | refine bI ?_ ?_ | refine bL ?_)
  | refine aC rfl ?_)
  rw [List.take_of_length_le (by omega)]
end
section
open Classical
variable {W:Wld}

theorem Bu (p:Pk)(hs:SmP p):FunOk PP W jR dD [ePk p] [ePk p]:=by
 refine Ae (aI ?_)
 (repeat' first
  | (refine run_ite rfl (fun h=>?_) (fun h=>?_)<;>(try simp (disch:=omega) only [zB,eqDs,aZ,Nat.reduceAdd,aA] at h)<;>(try (exfalso;omega)))
  | refine aG rfl ?_
  | refine aH rfl ?_
  | refine aE rfl (Rk p.files hs.1) rfl ?_
  | refine aE rfl (Rl p.deps hs.2) rfl ?_
  | refine aB rfl ?_ ?_
  | (refine aD rfl ?_;first | refine rb ?_ | refine ri ?_ | refine bI ?_ ?_ | refine bL ?_)
  | refine aC rfl ?_)
 rfl
theorem En (ps:List Pk)(hs:uQ ps):FunOk PP W wJ jX [cJ ps] [cJ ps]:=by
 refine Hm (aI ?_)
 have hl:=hs.1
 unfold lim at hl
 refine aU rfl (fun i:Int=>0≤i∧i≤ps.length) (fun i=>[(8,.val (i64 i)),(6,.val (cJ ps)),(3,.val (cJ (ps.take i.toNat))),(7,.val (i64 (ps.map ePk).length))]) (fun i=>(ps.length - i).toNat) 0 ⟨by omega,by omega⟩ ⟨rfl,rfl,rfl,rfl,trivial⟩ rfl ?_
 rintro i e ⟨h0,hN⟩
 have ht:(ps.take i.toNat).length≤i:=by rw [List.length_take];omega
 (repeat' first
  | (refine run_ite rfl (fun h=>?_) (fun h=>?_)<;>(try simp (disch:=omega) only [zB,eqDs,aZ,Nat.reduceAdd,aA] at h)<;>(try (exfalso;omega)))
  | refine aG rfl ?_
  | refine aH rfl ?_
  | refine iA rfl (Bu (ix ps i) (uK hs (by omega) (by omega))) rfl ?_
  | (refine aT rfl (Exists.intro (i+1) ⟨by omega,⟨by omega,by omega⟩,aO (aA _ (by omega)),rfl,?_,rfl,trivial⟩))
  | refine aB rfl ?_ ?_
  | (refine aD rfl ?_;first | refine rb ?_ | refine ri ?_ | refine bI ?_ ?_ | refine bL ?_)
  | refine aC rfl ?_)
 ·refine bU ?_
  rw [jO ps h0 (by omega),List.map_append]
  rfl
 ·refine bU ?_
  rw [List.take_of_length_le (by omega)]

end
section
open Classical
variable {W:Wld}

theorem Eo:∀ ps:List Pk,dH ps=2*gT ps
 | []=>by simp [dH,gT,fA]
 | p::r=>by
  have h:=Eo r
  simp only [dH,gT,fA,List.map_cons,List.sum_cons,List.length_cons] at *
  have e1:uR p=2+2*p.files.length+2*p.deps.length:=rfl
  have e2:cP p=p.files.length+p.deps.length:=rfl
  omega
theorem Na {α:Type}{f:α→Int}(hf:∀ x,0≤f x):∀ {xs:List α} {x:α},x∈xs→f x≤fA f xs
 | y::r,x,h=>by
  have h1:=mP hf r
  have h2:=hf y
  simp only [fA,List.map_cons,List.sum_cons] at *
  rcases List.mem_cons.1 h with e | h'
  ·rw [e];omega
  ·have:=Na hf h'
   simp only [fA] at this
   omega
theorem Nb {ps:List Pk}(h:gT ps≤1073741824):uQ ps:=by
 have hn:=mP Br ps
 unfold gT at h
 refine ⟨by unfold lim;omega,fun p hp=>?_⟩
 have:=Na Br hp
 have e:cP p=p.files.length+p.deps.length:=rfl
 exact ⟨by unfold lim;omega,by unfold lim;omega⟩
end
section
open Classical
variable {W:Wld}

/-! Keys. -/
def Ep (l:List Int)(i:Int):Prop:=(1≤ix l i∧ix l i≤6)∧(0<i→ix l (i - 1)<ix l i)
def Ry (l:List Int):Prop:=mF l.length (Ep l)
theorem ML (l:List Int)(hl:l.length≤lim):FunOk PP W wN kU [HJ l] [bo (decide (Ry l))]:=by
 refine Ll (aI ?_)
 unfold lim at hl
 (repeat' first
  | (refine run_ite rfl (fun h=>?_) (fun h=>?_)<;>(try simp (disch:=omega) only [zB,eqDs,aZ,Nat.reduceAdd,aA] at h)<;>(try (exfalso;omega)))
  | refine aG rfl ?_
  | refine aH rfl ?_
  | refine aB rfl ?_ ?_
  | (refine aD rfl ?_;first | refine rb ?_ | refine ri ?_ | refine bI ?_ ?_ | refine bL ?_)
  | refine aC rfl ?_)
 refine aU rfl (fun i:Int=>0≤i∧i≤l.length∧mF i (Ep l)) (fun i=>[(3,.val (i64 i)),(0,.val (HJ l))]) (fun i=>(l.length - i).toNat) 0 ⟨by omega,by omega,bE _⟩ ⟨rfl,rfl,trivial⟩ rfl ?_
 rintro i e ⟨h0,hN,hP⟩
 (repeat' first
  | (refine run_ite rfl (fun h=>?_) (fun h=>?_)<;>(try simp (disch:=omega) only [zB,eqDs,aZ,Nat.reduceAdd,aA] at h)<;>(try (exfalso;omega)))
  | refine aG rfl ?_
  | refine aH rfl ?_
  | refine aE rfl (qZ ..) rfl ?_
  | (refine aT rfl (Exists.intro (i+1) ⟨by omega,⟨by omega,by omega,cF hP (by unfold Ep;omega)⟩,aO (aA _ (by omega)),rfl,trivial⟩))
  | refine aB rfl ?_ ?_
  | (refine aD rfl ?_;first | refine rb ?_ | refine ri ?_ | refine bI ?_ ?_ | refine bL ?_)
  | refine aC rfl ?_)
 all_goals first
  | exact tD (dF hP (by omega))
  | exact fD (fun h'=>by have:=h' i (by omega) (by omega);unfold Ep at this;omega)
theorem MM (l:List Int)(hl:l.length≤lim):FunOk PP W wO kV [HJ l] [bo (decide (Ry l))]:=by
 refine Lr (aI ?_)
 unfold lim at hl
 (repeat' first
  | (refine run_ite rfl (fun h=>?_) (fun h=>?_)<;>(try simp (disch:=omega) only [zB,eqDs,aZ,Nat.reduceAdd,aA] at h)<;>(try (exfalso;omega)))
  | refine aG rfl ?_
  | refine aH rfl ?_
  | refine aB rfl ?_ ?_
  | (refine aD rfl ?_;first | refine rb ?_ | refine ri ?_ | refine bI ?_ ?_ | refine bL ?_)
  | refine aC rfl ?_)
 refine aU rfl (fun i:Int=>0≤i∧i≤l.length∧mF i (Ep l)) (fun i=>[(7,.val (i64 i)),(5,.val (HJ l)),(6,.val (i64 (l.map i64).length)),(0,.val (HJ l))]) (fun i=>(l.length - i).toNat) 0 ⟨by omega,by omega,bE _⟩ ⟨rfl,rfl,rfl,rfl,trivial⟩ rfl ?_
 rintro i e ⟨h0,hN,hP⟩
 (repeat' first
  | (refine run_ite rfl (fun h=>?_) (fun h=>?_)<;>(try simp (disch:=omega) only [zB,eqDs,aZ,Nat.reduceAdd,aA] at h)<;>(try (exfalso;omega)))
  | refine aG rfl ?_
  | refine aH rfl ?_
  | refine aE rfl (GV ..) rfl ?_
  | (refine aT rfl (Exists.intro (i+1) ⟨by omega,⟨by omega,by omega,cF hP (by unfold Ep;omega)⟩,aO (aA _ (by omega)),rfl,rfl,rfl,trivial⟩))
  | refine aB rfl ?_ ?_
  | (refine aD rfl ?_;first | refine rb ?_ | refine ri ?_ | refine bI ?_ ?_ | refine bL ?_)
  | refine aC rfl ?_)
 all_goals first
  | exact tD (dF hP (by omega))
  | exact fD (fun h'=>by have:=h' i (by omega) (by omega);unfold Ep at this;omega)

/-! How many keys are among both. -/
/-! Roots. -/
structure Rt where
 num:Int
 keys:List Int
 need:Int
deriving DecidableEq,Inhabited
abbrev Rz (r:Rt):List D:=[.int .i64 r.num,.sl (r.keys.map i64),.int .i64 r.need]
def KI (r:Rt):Prop:=(1≤r.num∧r.num≤9)∧Ry r.keys∧(1≤r.need∧r.need≤r.keys.length)
theorem MN (r:Rt)(hl:r.keys.length≤lim):FunOk PP W wH kP [Rz r] [bo (decide (KI r))]:=by
 refine Lb (aI ?_)
 (repeat' first
  | (refine run_ite rfl (fun h=>?_) (fun h=>?_)<;>(try simp (disch:=omega) only [zB,eqDs,aZ,Nat.reduceAdd,aA] at h)<;>(try (exfalso;omega)))
  | refine aG rfl ?_
  | refine aH rfl ?_
  | refine aE rfl (ML r.keys hl) rfl ?_
  | refine aE rfl (qZ ..) rfl ?_
  | refine aB rfl ?_ ?_
  | (refine aD rfl ?_;first | refine rb ?_ | refine ri ?_ | refine bI ?_ ?_ | refine bL ?_)
  | refine aC rfl ?_)
 all_goals
  refine dI ?_
  unfold KI
  try simp only [List.length_map,decide_eq_true_eq]
  grind
theorem MO (r:Rt)(hl:r.keys.length≤lim):FunOk PP W wK kR [Rz r] [bo (decide (KI r))]:=by
 refine Ld (aI ?_)
 (repeat' first
  | (refine run_ite rfl (fun h=>?_) (fun h=>?_)<;>(try simp (disch:=omega) only [zB,eqDs,aZ,Nat.reduceAdd,aA] at h)<;>(try (exfalso;omega)))
  | refine aG rfl ?_
  | refine aH rfl ?_
  | refine aE rfl (MM r.keys hl) rfl ?_
  | refine aE rfl (GV ..) rfl ?_
  | refine aB rfl ?_ ?_
  | (refine aD rfl ?_;first | refine rb ?_ | refine ri ?_ | refine bI ?_ ?_ | refine bL ?_)
  | refine aC rfl ?_)
 all_goals
  refine dI ?_
  unfold KI
  try simp only [List.length_map,decide_eq_true_eq]
  grind
/-! A new world. -/
structure Wn where
 roots:List SR
 bad:List Int
 tr:Rt
 dk:Dk
deriving DecidableEq,Inhabited
end
section
open Classical
variable {W:Wld}

theorem WS {p q:Rt}(h1:p.num=q.num)(h2:p.keys=q.keys)(h3:p.need=q.need):p=q:=by cases p;cases q;simp_all
theorem PN (p q:Rt)(hk:p.keys.length≤lim):FunOk PP W qS iD [Rz p,Rz q] [bo (decide (p=q))]:=by
 refine Lh (aI ?_)
 (repeat' first
  | (refine run_ite rfl (fun h=>?_) (fun h=>?_)<;>(try simp (disch:=omega) only [zB,eqDs,aZ,Nat.reduceAdd,aA] at h)<;>(try (exfalso;omega)))
  | refine aG rfl ?_
  | refine aH rfl ?_
  | refine aE rfl (PF p.keys q.keys hk) rfl ?_
  | refine aB rfl ?_ ?_
  | (refine aD rfl ?_;first | refine rb ?_ | refine ri ?_ | refine bI ?_ ?_ | refine bL ?_)
  | refine aC rfl ?_)
 all_goals first
  | exact tD (WS (by assumption) (by assumption) (by assumption))
  | exact fD (fun h'=>by subst h';exact absurd rfl (by assumption))
theorem KJ (p:Rt)(h:p.keys.length≤lim):FunOk PP W qS iD [Rz p,Rz p] [bo true]:=by simpa using PN (W:=W) p p h
/-! Roots that are marked. -/
/-! What is empty is marked. -/
/-! A world is marked. -/
def SA (r:Rt)(k:Int):Rt:=⟨r.num,El r.keys k,r.need⟩
theorem KK (r:Rt)(k:Int)(h0:0≤k)(hk:k+r.keys.length≤1099511627776):FunOk PP W qT fZ [Rz r,i64 k] [i64 (k+r.keys.length),Rz (SA r k)]:=by
 refine Eb (aI ?_)
 (repeat' first
  | (refine run_ite rfl (fun h=>?_) (fun h=>?_)<;>(try simp (disch:=omega) only [zB,eqDs,aZ,Nat.reduceAdd,aA] at h)<;>(try (exfalso;omega)))
  | refine aG rfl ?_
  | refine aH rfl ?_
  | (refine wB rfl rfl (KD r.keys k h0 hk) rfl rfl rfl rfl ?_)
  | refine aB rfl ?_ ?_
  | (refine aD rfl ?_;first | refine rb ?_ | refine ri ?_ | refine bI ?_ ?_ | refine bL ?_)
  | refine aC rfl ?_)
 all_goals rfl
end
section
open Classical
variable {W:Wld}

theorem PO (r:Rt)(left:Int)(h:0≤left∧left≤1048576)(hb:(r.keys.length:Int)≤mx):FunOk PP W wL kS [Rz r,i64 left] [i64 (Ek left r.keys.length)]:=by
 refine Lf (aI ?_)
 have f1:=PB (W:=W) r.keys left h hb
 by_cases c1:left<r.keys.length
 ·rw [cY c1] at f1 ⊢
  (repeat' first
  | (refine run_ite rfl (fun h=>?_) (fun h=>?_)<;>(try simp (disch:=omega) only [zB,eqDs,aZ,Nat.reduceAdd,aA] at h)<;>(try (exfalso;omega)))
  | refine aG rfl ?_
  | refine aH rfl ?_
  | refine aE rfl (f1) rfl ?_
  | refine aB rfl ?_ ?_
  | (refine aD rfl ?_;first | refine rb ?_ | refine ri ?_ | refine bI ?_ ?_ | refine bL ?_)
  | refine aC rfl ?_)
  rfl
 ·rw [dZ (by omega)] at f1 ⊢
  (repeat' first
  | (refine run_ite rfl (fun h=>?_) (fun h=>?_)<;>(try simp (disch:=omega) only [zB,eqDs,aZ,Nat.reduceAdd,aA] at h)<;>(try (exfalso;omega)))
  | refine aG rfl ?_
  | refine aH rfl ?_
  | refine aE rfl (f1) rfl ?_
  | refine aB rfl ?_ ?_
  | (refine aD rfl ?_;first | refine rb ?_ | refine ri ?_ | refine bI ?_ ?_ | refine bL ?_)
  | refine aC rfl ?_)
  rfl
theorem SB (r:Rt)(hl:r.keys.length≤lim):FunOk PP W wM jU [Rz r] [Rz r]:=by
 refine He (aI ?_)
 (repeat' first
  | (refine run_ite rfl (fun h=>?_) (fun h=>?_)<;>(try simp (disch:=omega) only [zB,eqDs,aZ,Nat.reduceAdd,aA] at h)<;>(try (exfalso;omega)))
  | refine aG rfl ?_
  | refine aH rfl ?_
  | refine aE rfl (Rm r.keys hl) rfl ?_
  | refine aB rfl ?_ ?_
  | (refine aD rfl ?_;first | refine rb ?_ | refine ri ?_ | refine bI ?_ ?_ | refine bL ?_)
  | refine aC rfl ?_)
 rfl
end
section
open Go.ChangeShapes Go.WideShapes Go.ChangeAt Go.RowKit

def WT:Ck:= .int .i64 (.int .i64 .nil)
def WU:Ck:= .int .i64 (.int .i64 (.sl WT (.sl WT .nil)))
def YO:Ck:= .int .i64 .nil
theorem nD {α:Type}{enc:α→List D}{Q:α→Prop}:∀ {xs:List (List D)},(∀ x∈xs,∃ a,x=enc a∧Q a)→∃ l:List α,xs=l.map enc∧∀ a∈l,Q a
 | [],_=>⟨[],rfl,fun a h=>by cases h⟩
 | x::xs,h=>by
  obtain ⟨a,rfl,h1⟩:=h x (List.mem_cons_self ..)
  obtain ⟨l,rfl,h2⟩:=nD (xs:=xs) (fun y hy=>h y (List.mem_cons_of_mem _ hy))
  exact ⟨a::l,rfl,fun b hb=>by rcases List.mem_cons.1 hb with rfl | hb;exact h1;exact h2 b hb⟩
theorem KL {n:Nat}(h:n≤maxLen):(n:Int)≤mx:=by
 unfold maxLen at h
 unfold mx
 omega
theorem WV {x:List D}(h:conf YO x):∃ a:Int,x=i64 a∧True:=by
 obtain ⟨n,ds,rfl,_,h⟩:=h
 have:ds=[]:=h
 subst this
 exact ⟨n,rfl,trivial⟩
theorem Nc {x:List D}(h:conf WT x):∃ a:P2,x=eP2 a∧True:=by
 obtain ⟨n,ds,rfl,_,m,ds',rfl,_,h⟩:=h
 have:ds'=[]:=h
 subst this
 exact ⟨⟨n,m⟩,rfl,trivial⟩
theorem UX {x:List D}(h:conf WU x):∃ a:Pk,x=ePk a∧YF a:=by
 obtain ⟨n,_,rfl,_,m,_,rfl,_,xs,_,rfl,h1,h2,ys,_,rfl,h3,h4,h⟩:=h
 have h:=(show _=[] from h)
 subst h
 obtain ⟨f,rfl,_⟩:=nD (fun x hx=>Nc (h2 x hx))
 obtain ⟨d,rfl,_⟩:=nD (fun x hx=>Nc (h4 x hx))
 rw [List.length_map] at h1 h3
 exact ⟨⟨n,m,f,d⟩,rfl,KL h1,KL h3⟩
theorem SC {xs:List (List D)}(hl:xs.length≤maxLen)(h:∀ x∈xs,conf WU x):∃ l:List Pk,xs=l.map ePk∧UV l:=by
 obtain ⟨l,rfl,h1⟩:=nD (fun x hx=>UX (h x hx))
 rw [List.length_map] at hl
 exact ⟨l,rfl,KL hl,h1⟩
end
section
open Go.ChangeShapes Go.WideShapes Go.ChangeAt Go.RowKit

def SD:Ck:= .sl WU .nil
theorem PQ {x:List D}(h:conf SD x):∃ l:List Pk,x=cJ l∧UV l:=by
 obtain ⟨xs,_,rfl,h1,h2,h⟩:=h
 have h:=(show _=[] from h)
 subst h
 obtain ⟨l,rfl,h3⟩:=SC h1 h2
 exact ⟨l,rfl,h3⟩
end
section
open Classical

def bA (l:List UInt8):ByteArray:=⟨l.toArray⟩
theorem bA_app (a b:List UInt8):bA a++bA b=bA (a++b):=by
 apply ByteArray.ext
 simp [bA,ByteArray.data_append]
theorem bA_size (a:List UInt8):(bA a).size=a.length:=by simp [bA,ByteArray.size]
abbrev sT (l:List UInt8):List D:=[.str (bA l)]
def u8 (n:Int):UInt8:=UInt8.ofNat n.toNat
def nmT (n v:Int):List UInt8:=[u8 (97+n - 1),u8 (48+v)]
def fT (f:P2):List UInt8:=[32,u8 (48+f.a),58,u8 (48+f.b)]
def dT (d:P2):List UInt8:=32::nmT d.a d.b
noncomputable def textM (p:Pk):List UInt8:=if PkOk p then nmT p.name p.ver++p.files.flatMap fT++p.deps.flatMap dT else []
theorem uL (p:Pk):(textM p).length≤30:=by
 unfold textM
 split
 ·rename_i h
  have h1:(p.files.length:Int)≤2:=h.2.2.1.2
  have h2:(p.deps.length:Int)≤2:=h.2.2.2.2
  have e1:(p.files.flatMap fT).length=4*p.files.length:=by
   rw [List.length_flatMap]
   induction p.files with
   | nil=>rfl
   | cons a r ih=>simp [fT,ih] at *;omega
  have e2:(p.deps.flatMap dT).length=3*p.deps.length:=by
   rw [List.length_flatMap]
   induction p.deps with
   | nil=>rfl
   | cons a r ih=>simp [dT,nmT,ih] at *;omega
  simp only [List.length_append,e1,e2]
  simp [nmT]
  omega
 ·simp
def PR (n:Int)(b:UInt8):Int:=(31*n+b.toNat+1).tmod 9973
def zK (l:List UInt8):Int:=l.foldl PR 7
theorem Eq {n:Int}(b:UInt8)(h:0≤n):0≤PR n b∧PR n b<9973:=by
 unfold PR
 rw [Int.tmod_eq_emod_of_nonneg (by omega)]
 omega
theorem GZ:∀ (l:List UInt8) (n:Int),0≤n→n<9973→0≤l.foldl PR n∧l.foldl PR n<9973
 | [],n,h,h'=>⟨h,h'⟩
 | b::r,n,h,_=>GZ r _ (Eq b h).1 (Eq b h).2
theorem MP (l:List UInt8):0≤zK l∧zK l<9973:=GZ l 7 (by omega) (by omega)
noncomputable def nV (p:Pk):Mt:=⟨p.name,p.ver,zK (textM p)⟩

structure Ix where
 num:Int
 till:Int
 ms:List Mt
deriving DecidableEq,Inhabited
abbrev FF (x:Ix):List D:=[.int .i64 x.num,.int .i64 x.till,.sl (x.ms.map eMt)]
def YP:Ix:=⟨0,0,[]⟩
structure Tu where
 r:Rt
 has:Bool
 x:Ix
deriving DecidableEq,Inhabited
abbrev Nd (t:Tu):List D:=[.int .i64 t.r.num,.sl (t.r.keys.map i64),.int .i64 t.r.need,.bool t.has,.int .i64 t.x.num,.int .i64 t.x.till,.sl (t.x.ms.map eMt)]
def MQ (l:List Mt)(i:Int):Prop:=(1≤(ix l i).name∧(ix l i).name≤4)∧(1≤(ix l i).ver∧(ix l i).ver≤5)∧(0≤(ix l i).sum∧(ix l i).sum≤9972)∧
 (0<i→(ix l (i - 1)).name<(ix l i).name∨((ix l (i - 1)).name=(ix l i).name∧(ix l (i - 1)).ver<(ix l i).ver))
def MR (x:Ix):Prop:=(1≤x.num∧x.num≤30)∧(0≤x.till∧x.till≤60)∧(x.ms.length:Int)≤8∧mF x.ms.length (MQ x.ms)
def Hx (t:Tu):Prop:=KI t.r∧if t.has=true then MR t.x else (t.x.num=0∧t.x.till=0∧t.x.ms=[])
end
end V
end Go.Proofs.YtmgpamcpdblckaaGreatDoor

/-
What strings.Builder's writing does at this seat (after the kit's own walks, Derived/Shelf/Strings/Builder1.lean and BuilderK.lean: the loader's refused row in copyCheck makes the body another one than the shelf's).
-/
namespace Go.Proofs.YtmgpamcpdblckaaGreatDoor
open Go.Shelf Go.RowKit
set_option maxRecDepth 100000
set_option maxHeartbeats 2000000

theorem Er (b:Nat)(w:World)(h0:w.cell? ⟨b,0,none⟩=some (.pointer (some ⟨b,0,none⟩))):
  Calls Tryz.prog 102 #[.pointer (some ⟨b,0,none⟩)] w fun e w'=>e= .returned (.tuple #[])∧w'=w:=by
 have hs:(Tryz.prog.info? 90).map (·.size)=some 2:=Tryz.Builder_Extra_169.sizeBuilder
 obtain ⟨j,hj,_⟩:=Option.map_eq_some_iff.1 hs
 have mixed:Tryz.prog.follows .mixedOrders=true:=V.mixed
 go_enter Tryz.func102,Tryz.ntmps102
 go_wp2
 rw [Lib.run_neq_ptr_same w _ Tryz.underlying88 hj]
 go_wp2
 go_end0
 exact ⟨rfl,rfl⟩

theorem CV (b:Nat)(w:World)(h0:w.cell? ⟨b,0,none⟩=some (.pointer none))(hsh:w.shape? b=some (90,2))(hfz:w.frozen? ⟨b,0,none⟩=false):
  Calls Tryz.prog 102 #[.pointer (some ⟨b,0,none⟩)] w fun e w'=>e= .returned (.tuple #[])∧w'=w.setCell ⟨b,0,none⟩ (.pointer (some ⟨b,0,none⟩)):=by
 have hs:(Tryz.prog.info? 90).map (·.size)=some 2:=Tryz.Builder_Extra_169.sizeBuilder
 obtain ⟨j,hj,hjs⟩:=Option.map_eq_some_iff.1 hs
 have hlies:liesAt Tryz.prog Tryz.prog.depth 90 (2 / Tryz.prog.cellsOf 90) 0 90 1=true:=Tryz.Builder_Extra_169.liesBuilder
 have mixed:Tryz.prog.follows .mixedOrders=true:=V.mixed
 go_enter Tryz.func102,Tryz.ntmps102
 go_wp2
 rw [Lib.run_to_unsafe w ⟨b,0,none⟩ Tryz.underlying88 Tryz.underlying169 hj (by rw [hjs];decide) hsh (Nat.zero_lt_succ 1)]
 simp only [Result.andThen]
 rw [Oper.upon_value]
 go_wp2
 rw [run_callFunc_extern Tryz.func136 (by kernel_rfl) (by kernel_rfl) (by kernel_rfl) (e:=Extern.AbiNoEscape.same) (by kernel_rfl)]
 rw [Lib.run_noEscape]
 simp only [Result.andThen]
 rw [Oper.upon_value]
 go_wp2
 rw [Lib.run_from_unsafe w ⟨b,0,none⟩ Tryz.underlying169 Tryz.underlying88 hj hsh hlies]
 simp only [Result.andThen]
 rw [Oper.upon_value]
 go_wp2
 go_end0
 exact ⟨rfl,rfl⟩

theorem KM (B b:Nat)(bs:List Value)(w:World)(h:Lib.IsBuilderF 90 5 B b bs w):
  Calls Tryz.prog 102 #[.pointer (some ⟨b,0,none⟩)] w fun e w'=>e= .returned (.tuple #[])∧(Lib.BuilderAtF 90 5 B b (.pointer (some ⟨b,0,none⟩)) bs w'∧Below B w w'∧Lib.OthersKept 5 (some b) w w'):=by
 rcases h with h | h
 ·refine (CV b w h.cell0 h.shape h.frozen0).mono ?_
  rintro e w' ⟨rfl,rfl⟩
  exact ⟨rfl,h.used _,(Below.refl B w).setCell (p:=⟨b,0,none⟩) h.1 _,(Lib.OthersKept.refl _ _ w).setCell ⟨b,0,none⟩ rfl _⟩
 ·refine (Er b w h.cell0).mono ?_
  rintro e w' ⟨rfl,rfl⟩
  exact ⟨rfl,h,Below.refl B _,Lib.OthersKept.refl _ _ _⟩

theorem pE (B b:Nat)(bs:List Value)(s:ByteArray)(w:World)(h:Lib.IsBuilderF 90 5 B b bs w)(hlen:bs.length+s.size≤140737488355328)(hBw:B≤w.heap.size):
  Calls Tryz.prog 52 #[.pointer (some ⟨b,0,none⟩),.string s] w fun e w'=>e= .returned (.tuple #[.int .i64 s.size,.nilIface])∧(Lib.BuilderAtF 90 5 B b (.pointer (some ⟨b,0,none⟩)) (bs++Lib.strCells s) w'∧Below B w w'∧Lib.OthersKept 5 (some b) w w'):=by
 have hib:(Tryz.prog.info? 5).map (fun i=>(i.zero,i.size,i.bytes))=some (some (.int .u8 0),1,1):=Tryz.Builder_Extra_169.infoByte
 obtain ⟨i0,hi,hz0,hz1,hz2⟩:=info_parts hib
 have mixed:Tryz.prog.follows .mixedOrders=true:=V.mixed
 go_enter Tryz.func52,Tryz.ntmps52
 go_wp2_with (go_at_call 102;refine (KM B b bs _ h).mono ?_)
 rintro e w1 ⟨rfl,h1,hb1,hk1⟩
 obtain ⟨hB,v,hbk,hown,hne⟩:=h1
 have c0:w1.cell? ⟨b,0,none⟩=some (.pointer (some ⟨b,0,none⟩)):=by rw [Lib.cell_of_heap hbk];rfl
 have c1:w1.cell? ⟨b,1,none⟩=some v:=by rw [Lib.cell_of_heap hbk];rfl
 go_wp2_with (at_builtin;refine Lib.wpList_append_own_stringF _ rfl _ _ 22 9 rfl B 5 i0 Tryz.underlying22 Tryz.underlying9 hi hz0 hz1 hz2 _ _ _ rfl hown s rfl ?c3 ?c4 ?c5 ?_)
 case c3=>unfold maxLen;omega
 case c4=>omega
 case c5=>have:=hb1.size;omega
 intro v' w2 hown' hgrow _
 have hlt:b<w1.heap.size:=by
  rcases Nat.lt_or_ge b w1.heap.size with h' | h'
  ·exact h'
  ·simp [Array.getElem?_eq_none h'] at hbk
 have hb2:w2.heap[b]? =some (.cells #[.pointer (some ⟨b,0,none⟩),v] 90 (0,0)):=by
  rw [hgrow.block b hlt (fun e=>hne e.symm)]
  exact hbk
 have d0:w2.cell? ⟨b,0,none⟩=some (.pointer (some ⟨b,0,none⟩)):=by rw [Lib.cell_of_heap hb2];rfl
 have d1:w2.cell? ⟨b,1,none⟩=some v:=by rw [Lib.cell_of_heap hb2];rfl
 have f1:w2.frozen? ⟨b,1,none⟩=false:=Lib.frozen_of_heap hb2 1
 obtain ⟨ao,n',cap,rfl⟩:∃ ao n' cap,v'= .slice ao n' cap:=by
  rcases hown'.2 with ⟨hv,_⟩ | ⟨g,cap,cur,fz,hv,_⟩
  ·exact ⟨_,_,_,hv⟩
  ·exact ⟨_,_,_,hv⟩
 go_wp2
 go_ret2
 refine ⟨rfl,?_,?_,(hk1.grown hgrow (Lib.ownsRowF_kind hown)).setCell ⟨b,1,none⟩ rfl _⟩
 ·exact Lib.BuilderAtF.put (T:=90) (e:=5) hB hb2 (bs':=bs++Lib.strCells s) (by simpa [Lib.strCells_length] using hown') Tryz.Builder_Extra_169.neB5
 ·exact (hb1.grown hgrow (by have:=hb1.size;omega) (fun k hk=>(hown.lt k hk).1)).setCell (p:=⟨b,1,none⟩) hB _
end Go.Proofs.YtmgpamcpdblckaaGreatDoor

/-
What the program's named does.
-/
namespace Go.Proofs.YtmgpamcpdblckaaGreatDoor
open Go.Shelf Go.RowKit
set_option maxRecDepth 100000
set_option maxHeartbeats 2000000

theorem YG (n:Int)(hn:1≤n∧n≤4):Utf8.encode (97+n - 1)=V.bA [V.u8 (97+n - 1)]:=by
 have:n=1∨n=2∨n=3∨n=4:=by omega
 rcases this with rfl | rfl | rfl | rfl<;>rfl
theorem WW (i:Nat)(h:i≤9):Lib.decDigits i=[V.u8 (48+(i:Int))]:=by
 rw [Lib.decDigits_one (by omega)]
 unfold V.u8
 rw [show (48+(i:Int)).toNat=48+i by omega]
theorem Es (n v:Int)(hn:1≤n∧n≤4)(hv:1≤v∧v≤5)(w:World):
  Calls Tryz.prog 53 #[.int .i64 n,.int .i64 v] w fun e w'=>e= .returned (.string (V.bA (V.nmT n v)))∧w'=w:=by
 have mixed:Tryz.prog.follows .mixedOrders=true:=V.mixed
 obtain ⟨i,rfl⟩:∃ i:Nat,v=i:=⟨v.toNat,by omega⟩
 have he:=YG n hn
 have hd:=WW i (by omega)
 have hs:¬9223372036854775807<(Utf8.encode (97+n - 1)).size+(Lib.decDigits i).length:=by rw [he,hd,V.bA_size];simp
 go_enter Tryz.func53,Tryz.ntmps53
 go_wp2_with (go_at_call 54;refine (Tryz.strconv_Itoa_small i (by omega) _).mono ?_;rintro e w' ⟨rfl,rfl⟩)
 go_ret
 refine ⟨?_,rfl⟩
 show Ending.returned (Value.string (V.bA [V.u8 (97+n - 1)]++V.bA [V.u8 (48+(i:Int))]))=_
 rw [V.bA_app]
 rfl
namespace V
open Classical
def InW (w:World)(g _o:Nat):Prop:=g<w.heap.size
def XW:Own:=fun _=>none
def YH (w:World):Cx:=⟨InW w,InW w,fun g=>w.heap.size≤g⟩
theorem SE (w:World):WOk w XW (YH w) XW w where
 kept:=Kept.refl _ _
 dom:=fun g i h=>by cases h
 n:=fun g=>by
  show w.heap.size≤g↔_
  exact ⟨fun h=> .inl h,fun h=>h.elim id (fun h'=>absurd rfl h')⟩
 s1:=fun g o h=>h
 s2:=fun g o h=>⟨h,aQ rfl⟩
 cl:=fun g o _ h=>h
 inj:=fun g g' i j h=>by cases h
theorem SF {w:World}{cx:Cx}{own:Own}{d:D}{v:Value}(h:Rep w (BS cx own) d v):Rep w (InW w) d v:=
 h.in_ (fun _ _ _ _ h=>h) (fun g cur T h=>⟨cur,h,rfl⟩) (fun g o u _ h=>eM h)
theorem SG {w:World}{d:D}{v:Value}(h:Rep w (InW w) d v):Rep w (BS (YH w) XW) d v:=
 h.mono (fun _ _ _=>rfl) (fun g cur T h=>⟨cur,h,rfl⟩) (fun g o h=>⟨aQ rfl,.inl h⟩)
theorem Kept.below {w w':World}(h:Kept XW w w'):Below w.heap.size w w':=⟨h.os,h.tape,h.output,h.size,fun k hk=>h.block k hk rfl⟩
theorem inW_below {w w':World}{B:Nat}{d:D}{v:Value}(h:Rep w (InW w) d v)(hb:Below B w w')(hB:w.heap.size≤B):Rep w' (InW w) d v:=
 h.mono (fun g o hg=>by
  have hg:g<w.heap.size:=hg
  simp only [World.cell?,hb.block g (by omega)]) (fun g cur T h=>by
   have:=jK h
   exact ⟨cur,by rw [hb.block g (by omega)];exact h,rfl⟩) (fun _ _ h=>h)
theorem rep_row {w:World}{xs:List P2}{v:Value}(h:Rep w (InW w) (.sl (xs.map eP2)) v):∃ A cap,v= .slice A xs.length cap∧xs.length≤cap+xs.length∧
  ∀ i:Nat,i<xs.length→∃ g off,A=some ⟨g,off,none⟩∧xs.length≤cap∧g<w.heap.size∧w.cell? ⟨g,off+i*2,none⟩=some (.int .i64 (ix xs i).a)∧w.cell? ⟨g,off+i*2+1,none⟩=some (.int .i64 (ix xs i).b):=by
 generalize hd:D.sl (xs.map eP2)=d at h
 cases h with
 | scal h=>subst hd;cases h
 | nil A cap=>
  have:xs=[]:=by simpa using hd
  subst this
  exact ⟨A,cap,rfl,by simp,fun i hi=>absurd hi (by simp)⟩
 | sl ys g off sz cap vs q1 q2 q3 q4 q5=>
  have hy:xs.map eP2=ys:=by simpa using hd
  subst hy
  refine ⟨some ⟨g,off,none⟩,cap,by simp,by omega,fun i hi=>?_⟩
  have hx:(xs.map eP2)[i]? =some (eP2 (ix xs i)):=by simp [ix,hi]
  have h2:sz=2:=(q2 _ (List.mem_of_getElem? hx)).symm
  subst h2
  have c0:=q3 i _ 0 _ hx rfl
  have c1:=q3 i _ 1 _ hx rfl
  have r0:=q5 i _ 0 _ hx rfl
  have r1:=q5 i _ 1 _ hx rfl
  have s0:=q4 i _ 0 _ hx rfl
  have key:∀ (n:Int) (u:Value),Rep w (InW w) (.int .i64 n) u→u= .int .i64 n:=fun n u h=>by
   cases h with
   | scal h=>cases h;rfl
  have e0:=key _ _ r0
  have e1:=key _ _ r1
  rw [e0] at c0
  rw [e1] at c1
  exact ⟨g,off,rfl,by simpa using q1,s0,c0,c1⟩
 | fn=>cases hd
theorem pkgOk_call (p:Pk)(hs:SmP p)(v1 v2:Value)(w:World)(h1:Rep w (InW w) (.sl (p.files.map eP2)) v1)(h2:Rep w (InW w) (.sl (p.deps.map eP2)) v2):
  Calls Tryz.prog 51 #[.agg #[.int .i64 p.name,.int .i64 p.ver,v1,v2]] w fun e w'=>e= .returned (.bool (decide (PkOk p)))∧Below w.heap.size w w':=by
 obtain ⟨_,hf⟩:=Ah (W:=WG) p hs
 have s1:∀ {d:D} {v:Value},Rep w (InW w) d v→(∃ xs,d= .sl xs)→Cell1 v:=fun h hd=>by
  obtain ⟨xs,rfl⟩:=hd
  cases h with
  | scal h=>cases h
  | nil A cap=>exact ⟨fun c h=>(by cases h),fun c h=>(by cases h)⟩
  | sl=>exact ⟨fun c h=>(by cases h),fun c h=>(by cases h)⟩
 refine (hf w XW (YH w) [.agg #[.int .i64 p.name,.int .i64 p.ver,v1,v2]] trivial (SE w) (fun g i h=>by cases h) rfl rfl (fun q hq=>?_)).mono ?_
 ·have:q=(0,.v true [.s,.s,.b,.b]):=by simpa [mC,rW,nX] using hq
  subst this
  refine ⟨[.int .i64 p.name,.int .i64 p.ver,v1,v2],rfl,fun h=>(by cases h),rfl,rfl,fun i c d v hc hd hv=>?_⟩
  match i,hc,hd,hv with
  | 0,hc,hd,hv=>cases hc;cases hd;cases hv;exact ⟨⟨fun c h=>(by cases h),fun c h=>(by cases h)⟩,.int _ _⟩
  | 1,hc,hd,hv=>cases hc;cases hd;cases hv;exact ⟨⟨fun c h=>(by cases h),fun c h=>(by cases h)⟩,.int _ _⟩
  | 2,hc,hd,hv=>cases hc;cases hd;cases hv;exact ⟨s1 h1 ⟨_,rfl⟩,SG h1⟩
  | 3,hc,hd,hv=>cases hc;cases hd;cases hv;exact ⟨s1 h2 ⟨_,rfl⟩,SG h2⟩
  | i+4,hc,hd,hv=>simp at hc
 ·rintro e w' ⟨v,own',rfl,hw',hr⟩
  refine ⟨?_,hw'.kept.below⟩
  obtain ⟨rv,hrl,hv,hrs,_⟩:=hr.tv
  match rv,hrl with
  | [r],_=>
   have hv:v=r:=hv
   subst hv
   obtain ⟨vs,e0,l0,a0⟩:=hrs 0 _ rfl
   match vs,l0 rfl with
   | [u],_=>
    have e0:v=u:=e0
    subst e0
    obtain ⟨_,hsc⟩:=a0.2.2 0 .s (.bool (decide (PkOk p))) v rfl rfl rfl
    have hsc:Scal (.bool (decide (PkOk p))) v:=hsc
    cases hsc
    rfl
end V
end Go.Proofs.YtmgpamcpdblckaaGreatDoor

/-
The text of a package, as the program writes it.
-/
namespace Go.Proofs.YtmgpamcpdblckaaGreatDoor
open Go.Shelf Go.RowKit
open Classical
set_option maxRecDepth 100000
set_option maxHeartbeats 4000000

theorem zL {w w1:World}{d:V.D}{v:Value}(h:V.Rep w (V.InW w) d v)(hb:Below w.heap.size w w1):V.Rep w1 (V.InW w1) d v:=
 (V.inW_below h hb (Nat.le_refl _)).mono (fun _ _ _=>rfl) (fun g cur T h=>⟨cur,h,rfl⟩) (fun g o h=>Nat.lt_of_lt_of_le h hb.size)
theorem eK (w:World)(o:Obj):Below w.heap.size w (w.alloc o):=(Below.refl _ w).alloc (Nat.le_refl _) o
theorem iG {B:Nat}{w w':World}(h:Below B w w')(g o:Nat)(hg:g<B):w'.cell? ⟨g,o,none⟩=w.cell? ⟨g,o,none⟩:=by
 simp only [World.cell?,h.block g hg]
theorem Et (w:World)(x:Obj)(g o:Nat)(hg:g<w.heap.size):(w.alloc x).cell? ⟨g,o,none⟩=w.cell? ⟨g,o,none⟩:=iG (eK w x) g o hg
abbrev XX (b:Nat)(l:List UInt8)(w:World):Prop:=Lib.IsBuilderF 90 5 b b (Lib.byteCells l) w
theorem tW (l:List UInt8):Lib.strCells (V.bA l)=Lib.byteCells l:=by
 simp [Lib.strCells,Lib.byteCells,V.bA]
theorem KN (w:World)(cs:Array Value)(T:TypeId)(j:Nat):(w.alloc (.cells cs T)).drew.cell? ⟨w.heap.size,j,none⟩=cs[j]? :=by
 have:(w.alloc (.cells cs T)).drew.heap[w.heap.size]? =some (.cells cs T (0,0)):=heap_alloc_new w _
 simp only [World.cell?,this]
 rfl
theorem MS {P:Program}{id:Nat}{Q:Exit→Act→World→Prop}{a:Act}{w:World}{l:List Oper}(n:Nat)(hm:P.follows .mixedOrders=true)(hB:Region.lexTailB .any l.toArray n=true)(w5:World)(h5:w5=w.drew)
  (h:wpStill P l.toArray w5 (fun a'=>wpList P l.toArray Q (l.drop n) a' w5) (l.take n) a):(Code.region id l.toArray true).wp P Q a w:=by
 subst h5
 exact wp_region_still_tail n hm hB h
theorem MT {B:Nat}{w w':World}(h:Below B w w'):Below B w w'.drew:=⟨h.os,h.tape,h.output,h.size,h.block⟩
theorem zM {α:Type}(f:α→List UInt8)(n:Nat)(hf:∀ x,(f x).length=n):∀ xs:List α,(xs.flatMap f).length=n*xs.length
 | []=>by simp
 | x::r=>by
  have:=zM f n hf r
  simp [hf,this,Nat.mul_add,Nat.add_comm]
theorem MU {p:V.Pk}(hP:V.PkOk p)(k:Nat)(hk:k≤p.files.length):(V.nmT p.name p.ver++(p.files.take k).flatMap V.fT).length≤10:=by
 have h1:(p.files.length:Int)≤2:=hP.2.2.1.2
 rw [List.length_append,zM V.fT 4 (fun _=>rfl),List.length_take]
 simp only [V.nmT,List.length_cons,List.length_nil]
 omega
theorem KO {p:V.Pk}(hP:V.PkOk p)(k:Nat)(hk:k≤p.deps.length):(V.nmT p.name p.ver++p.files.flatMap V.fT++(p.deps.take k).flatMap V.dT).length≤16:=by
 have h1:(p.files.length:Int)≤2:=hP.2.2.1.2
 have h2:(p.deps.length:Int)≤2:=hP.2.2.2.2
 rw [List.length_append,List.length_append,zM V.fT 4 (fun _=>rfl),zM V.dT 3 (fun _=>rfl),List.length_take]
 simp only [V.nmT,List.length_cons,List.length_nil]
 omega
theorem Ga {α:Type}[Inhabited α](f:α→List UInt8)(xs:List α)(k:Nat)(hk:k<xs.length):(xs.take (k+1)).flatMap f=(xs.take k).flatMap f++f (V.ix xs k):=by
 have:xs.take (k+1)=xs.take k++[V.ix xs k]:=by
  rw [List.take_add_one]
  simp [V.ix,hk]
 rw [this]
 simp
theorem Hy (p:V.Pk)(hs:V.SmP p)(v1 v2:Value)(w:World)(h1:V.Rep w (V.InW w) (.sl (p.files.map V.eP2)) v1)(h2:V.Rep w (V.InW w) (.sl (p.deps.map V.eP2)) v2):
  Calls Tryz.prog 16 #[.agg #[.int .i64 p.name,.int .i64 p.ver,v1,v2]] w fun e w'=>e= .returned (.string (V.bA (V.textM p)))∧Below w.heap.size w w':=by
 have mixed:Tryz.prog.follows .mixedOrders=true:=V.mixed
 go_enter Tryz.func16,Tryz.ntmps16
 go_wp2_with (go_at_call 51;refine (V.pkgOk_call p hs v1 v2 _ (zL h1 (eK w _)) (zL h2 (eK w _))).mono ?_)
 rintro e w2 ⟨rfl,hb2⟩
 have hsz2:w.heap.size<w2.heap.size:=by
  have:=hb2.size
  simp at this
  omega
 have hb0:Below w.heap.size w w2:=(eK w _).trans (hb2.mono (by simp))
 have hbx:w2.heap[w.heap.size]? =some (.cells #[.int .i64 p.name,.int .i64 p.ver,v1,v2] 41 (0,0)):=by
  rw [hb2.block _ (by simp)]
  exact heap_alloc_new w _
 have r1:=zL h1 hb0
 have r2:=zL h2 hb0
 by_cases hP:V.PkOk p
 ·have hd:decide (V.PkOk p)=true:=decide_eq_true hP
  rw [hd]
  obtain ⟨A1,cap1,rfl,_,row1⟩:=V.rep_row r1
  obtain ⟨A2,cap2,rfl,_,row2⟩:=V.rep_row r2
  clear hb2 h1 h2 r1 r2
  have c0:∀ x,(w2.alloc x).cell? ⟨w.heap.size,0,none⟩=some (.int .i64 p.name):=fun x=>by rw [Et w2 x _ _ hsz2];simp only [World.cell?,hbx];rfl
  have c1:∀ x,(w2.alloc x).cell? ⟨w.heap.size,1,none⟩=some (.int .i64 p.ver):=fun x=>by rw [Et w2 x _ _ hsz2];simp only [World.cell?,hbx];rfl
  go_wp2_with (go_at_call 53;refine (Es p.name p.ver hP.1 hP.2.1 _).mono ?_;rintro e w' ⟨rfl,rfl⟩)
  refine (pE w2.heap.size w2.heap.size [] (V.bA (V.nmT p.name p.ver)) _ (Lib.IsBuilderF.of (Lib.fresh_isBuilder 90 5 w2)) (by rw [V.bA_size];simp [V.nmT]) (by simp)).mono ?_
  rintro e w3 ⟨rfl,hB3,hbl3,_⟩
  have hI3:XX w2.heap.size (V.nmT p.name p.ver) w3:= .inr (by rw [←tW];simpa using hB3)
  have hb3:Below w2.heap.size w2 w3:=(eK w2 _).trans hbl3
  clear c0 c1 hB3 hbl3
  have c2:w3.cell? ⟨w.heap.size,2,none⟩=some (.slice A1 p.files.length cap1):=by rw [iG hb3 _ _ hsz2];simp only [World.cell?,hbx];rfl
  go_wp2
  go_loopw [20] (fun i wr=>∃ k:Nat,i= .int .i64 k∧k≤p.files.length∧XX w2.heap.size (V.nmT p.name p.ver++(p.files.take k).flatMap V.fT) wr∧Below w2.heap.size w2 wr) (fun i wr=>p.files.length - (intOf i).toNat)
  case atStart=>exact ⟨0,rfl,by omega,by simpa using hI3,hb3⟩
  case round=>
   obtain ⟨k,rfl,hk,hI,hbw⟩:=hrel
   clear c2
   by_cases hlt:k<p.files.length
   ·obtain ⟨g,off,rfl,hcap,hg,x0,x1⟩:=row1 k hlt
    have y0:=(iG hbw g (off+k*2) (by omega)).trans x0
    have y1:=(iG hbw g (off+k*2+1) (by omega)).trans x1
    have hfl:(p.files.length:Int)≤2:=hP.2.2.1.2
    obtain ⟨fa,fb,_⟩:=hP.2.2.1.1 k (by omega) (by omega)
    obtain ⟨a,ha⟩:∃ a:Nat,(V.ix p.files k).a=a:=⟨(V.ix p.files k).a.toNat,by omega⟩
    obtain ⟨b,hb⟩:∃ b:Nat,(V.ix p.files k).b=b:=⟨(V.ix p.files k).b.toNat,by omega⟩
    rw [ha] at y0
    rw [hb] at y1
    have da:=WW a (by omega)
    have db:=WW b (by omega)
    go_wp2
    obtain ⟨W5,hW5⟩:∃ W5:World,W5=(wr.alloc (Obj.cells #[.int .i64 a,.int .i64 b] 97)).drew:=⟨_,rfl⟩
    have z0:W5.cell? ⟨wr.heap.size,0,none⟩=some (.int .i64 a):=by rw [hW5];exact KN wr _ _ 0
    have z1:W5.cell? ⟨wr.heap.size,1,none⟩=some (.int .i64 b):=by rw [hW5];exact KN wr _ _ 1
    refine MS 9 mixed (by kernel_rfl) W5 hW5 ?_
    simp only [List.take_succ_cons,List.take_zero,List.drop_succ_cons,List.drop_zero]
    repeat still_step
    still_call (Tryz.strconv_Itoa_small a (by omega) _)
    repeat still_step
    still_call (Tryz.strconv_Itoa_small b (by omega) _)
    repeat still_step
    refine wpStill_nil ?_
    have hstr:((⟨#[32]⟩:ByteArray)++⟨#[V.u8 (48+(a:Int))]⟩++⟨#[58]⟩++⟨#[V.u8 (48+(b:Int))]⟩)=V.bA (V.fT (V.ix p.files k)):=by
     show V.bA [32]++V.bA [V.u8 (48+(a:Int))]++V.bA [58]++V.bA [V.u8 (48+(b:Int))]=_
     rw [V.bA_app,V.bA_app,V.bA_app]
     simp [V.fT,ha,hb]
    have hI5:XX w2.heap.size (V.nmT p.name p.ver++(p.files.take k).flatMap V.fT) W5:=by rw [hW5];exact hI.alloc _
    have hb5:Below w2.heap.size w2 W5:=hbw.trans (by rw [hW5];exact MT ((eK wr _).mono hbw.size))
    clear hW5 z0 z1 y0 y1
    go_wp2_with (go_at_call 52;refine (pE w2.heap.size w2.heap.size _ _ W5 hI5 ?hq1 hb5.size).mono ?_)
    case hq1=>
     have hl:=MU hP k hk
     rw [V.bA_size,Lib.byteCells_length]
     rw [show (V.fT (V.ix p.files k)).length=4 from rfl]
     omega
    rintro e w6 ⟨rfl,hB6,hbl6,_⟩
    go_wp2
    go_roundw
    case rel=>
     refine ⟨k+1,rfl,by omega,.inr ?_,hb5.trans hbl6⟩
     rw [tW,←Lib.byteCells_append] at hB6
     rw [Ga V.fT p.files k hlt,←List.append_assoc]
     exact hB6
    case measure=>simp only [intOf];omega
   ·have hk':k=p.files.length:=by omega
    subst hk'
    rw [List.take_length] at hI
    have c3:wr.cell? ⟨w.heap.size,3,none⟩=some (.slice A2 p.deps.length cap2):=by rw [iG hbw _ _ hsz2];simp only [World.cell?,hbx];rfl
    clear row1
    go_wp2
    go_loopw [38] (fun i wr=>∃ k:Nat,i= .int .i64 k∧k≤p.deps.length∧XX w2.heap.size (V.nmT p.name p.ver++p.files.flatMap V.fT++(p.deps.take k).flatMap V.dT) wr∧Below w2.heap.size w2 wr) (fun i wr=>p.deps.length - (intOf i).toNat)
    case atStart=>exact ⟨0,rfl,by omega,by simpa using hI,hbw⟩
    case round=>
     clear hI hbw c3
     obtain ⟨k,rfl,hk,hI,hbw⟩:=hrel
     have hdl:(p.deps.length:Int)≤2:=hP.2.2.2.2
     by_cases hlt:k<p.deps.length
     ·obtain ⟨g,off,rfl,hcap,hg,x0,x1⟩:=row2 k hlt
      have y0:=(iG hbw g (off+k*2) (by omega)).trans x0
      have y1:=(iG hbw g (off+k*2+1) (by omega)).trans x1
      obtain ⟨fa,_,fb,_⟩:=hP.2.2.2.1 k (by omega) (by omega)
      have hz:¬9223372036854775807<1+(V.bA (V.nmT (V.ix p.deps k).a (V.ix p.deps k).b)).size:=by rw [V.bA_size];simp [V.nmT]
      go_wp2_with (go_at_call 53;refine (Es _ _ fa fb _).mono ?_;rintro e w' ⟨rfl,rfl⟩)
      have hstr:((⟨#[32]⟩:ByteArray)++V.bA (V.nmT (V.ix p.deps k).a (V.ix p.deps k).b))=V.bA (V.dT (V.ix p.deps k)):=by
       show V.bA [32]++V.bA _=_
       rw [V.bA_app]
       rfl
      have hI5:XX w2.heap.size (V.nmT p.name p.ver++p.files.flatMap V.fT++(p.deps.take k).flatMap V.dT) (wr.alloc (Obj.cells #[.int .i64 (V.ix p.deps k).a,.int .i64 (V.ix p.deps k).b] 100)):=hI.alloc _
      have hb5:Below w2.heap.size w2 (wr.alloc (Obj.cells #[.int .i64 (V.ix p.deps k).a,.int .i64 (V.ix p.deps k).b] 100)):=hbw.trans ((eK wr _).mono hbw.size)
      refine (pE w2.heap.size w2.heap.size _ _ _ hI5 ?hq2 hb5.size).mono ?_
      case hq2=>
       have hl:=KO hP k hk
       rw [hstr,V.bA_size,Lib.byteCells_length]
       rw [show (V.dT (V.ix p.deps k)).length=3 from rfl]
       omega
      rintro e w6 ⟨rfl,hB6,hbl6,_⟩
      rw [hstr,tW,←Lib.byteCells_append] at hB6
      clear hstr
      go_wp2
      go_roundw
      case rel=>
       refine ⟨k+1,rfl,by omega,.inr ?_,hb5.trans hbl6⟩
       rw [Ga V.dT p.deps k hlt,←List.append_assoc]
       exact hB6
      case measure=>simp only [intOf];omega
     ·have hk':k=p.deps.length:=by omega
      subst hk'
      rw [List.take_length] at hI
      clear row2
      go_wp2_with (go_at_call 55;refine (Tryz.Builder_String_any_k w2.heap.size w2.heap.size _ _ hI hbw.size).mono ?_)
      rintro e w7 ⟨rfl,_,hb7,_⟩
      go_wp2
      go_ret
      refine ⟨?_,(hb0.trans (hbw.mono (Nat.le_of_lt hsz2))).trans (hb7.mono (Nat.le_of_lt hsz2))⟩
      show Ending.returned (Value.string (V.bA _))=_
      rw [V.textM,if_pos hP,List.append_assoc]
 ·have hd:decide (V.PkOk p)=false:=decide_eq_false hP
  rw [hd]
  go_wp2
  go_ret
  refine ⟨?_,hb0⟩
  rw [V.textM,if_neg hP]
  rfl
namespace V
variable {W:Wld}
theorem PT {w w':World}{own:Own}{cx:Cx}{sig:Sig}{vals:List Value}{d:D}{v:Value}(hw:WOk w own cx own w)(hlow:∀ g i,own g=some i→i.leaf.1<sig.ps.length)(hb:Below w.heap.size w w')
  (hrs:sig.rs=[.v false [.s]])(hbx:boxPs sig.ps 0=[])(hio:DR sig=none)(hs:Scal d v):∃ u own',Ending.returned v= .returned u∧WOk w own cx own' w'∧mE w' cx own' sig [[d]] vals u:=by
 refine ⟨v,fun _=>none,rfl,⟨⟨hb.os,hb.tape,hb.output,hb.size,fun g hg _=>hb.block g hg,fun g o hg _=>by simp only [World.cell?,hb.block g hg],fun g cur T h=>⟨cur,by rw [hb.block g (jK h)];exact h,rfl⟩⟩,fun g i h=>(by cases h),hw.n,hw.s1,hw.s2,fun g o _ hc=>?_,fun g g' i j h=>(by cases h)⟩,?_⟩
 ·obtain ⟨i,b,h1,_⟩:=hc
  cases h1
 ·unfold mE
  rw [hio]
  have c1:Cell1 v:=by cases hs<;>exact ⟨fun c h=>(by cases h),fun c h=>(by cases h)⟩
  refine ⟨by rw [hrs,hbx];rfl,[v],by rw [hrs];rfl,rfl,fun k p hp=>?_,fun i b hb=>by rw [hbx] at hb;simp at hb⟩
  rw [hrs] at hp
  cases k with
  | succ k=>simp at hp
  | zero=>
   have hp:PSh.v false [.s]=p:=by simpa using hp
   subst hp
   refine ⟨[v],rfl,fun _=>rfl,rfl,rfl,fun i c dd u hc hd hv=>?_⟩
   cases i with
   | succ i=>simp at hc
   | zero=>
    simp only [List.getElem?_cons_zero,Option.some.injEq] at hc hv
    subst hc;subst hv
    have hd:some d=some dd:=hd
    simp only [Option.some.injEq] at hd
    subst hd
    exact ⟨c1,hs⟩
theorem Bv (p:Pk)(hs:SmP p):FunOk PP W sQ lR [ePk p] [sT (textM p)]:=by
 refine ⟨⟨Tryz.f16,Tryz.func16,by kernel_rfl,by kernel_rfl⟩,fun w own cx vals hP hw hlow hvl hil hinv=>?_⟩
 match vals,hvl with
 | [v0],_=>
  obtain ⟨vs,e0,_,l0,l1,a0⟩:=hinv (0,.v true [.s,.s,.b,.b]) (List.mem_cons_self ..)
  have l1:vs.length=4:=l1
  match vs,l1 with
  | [u0,u1,u2,u3],_=>
   have e0:v0= .agg #[u0,u1,u2,u3]:=e0
   obtain ⟨_,h0⟩:=a0 0 .s (.int .i64 p.name) u0 rfl rfl rfl
   obtain ⟨_,h1⟩:=a0 1 .s (.int .i64 p.ver) u1 rfl rfl rfl
   obtain ⟨_,h2⟩:=a0 2 .b (.sl (p.files.map eP2)) u2 rfl rfl rfl
   obtain ⟨_,h3⟩:=a0 3 .b (.sl (p.deps.map eP2)) u3 rfl rfl rfl
   have h0:Scal (.int .i64 p.name) u0:=h0
   have h1:Scal (.int .i64 p.ver) u1:=h1
   cases h0
   cases h1
   subst e0
   refine (Hy p hs u2 u3 w (SF h2) (SF h3)).mono ?_
   rintro e w' ⟨rfl,hb⟩
   exact PT hw (fun g i h=>(hlow g i h).2) hb rfl rfl rfl (.str _)
end V
end Go.Proofs.YtmgpamcpdblckaaGreatDoor

/-
Plain proofs: texts of packages and their sums.
-/
namespace Go.Proofs.YtmgpamcpdblckaaGreatDoor
namespace V
section
open Classical
variable {W:Wld}

theorem Nf {a b:ByteArray}(h:a=b):([.str a]:List D)=[.str b]:=by rw [h]
theorem MV {a b:ByteArray}(h:a=b):([[.str a]]:List (List D))=[[.str b]]:=by rw [h]
theorem SH (n:Int)(h:0≤n∧n≤255):IntKind.u8.wrap n=n:=by
 show (if (false&&decide (n % (2^8:Int)≥(2^7:Int)))=true then n % (2^8:Int) - (2^8:Int) else n % (2^8:Int))=n
 simp only [Bool.false_and]
 rw [if_neg (by simp)]
 omega
theorem KP (n:Int)(h:0≤n∧n≤9):FunOk PP W kJ fH [i64 n] [sT [u8 (48+n)]]:=by
 refine Oo (aI ?_)
 (repeat' first
  | (refine run_ite rfl (fun h=>?_) (fun h=>?_)<;>(try simp (disch:=omega) only [zB,eqDs,aZ,Nat.reduceAdd,aA] at h)<;>(try (exfalso;omega)))
  | refine aG rfl ?_
  | refine aH rfl ?_
  | refine aB rfl ?_ ?_
  | (refine aD rfl ?_;first | refine rb ?_ | refine ri ?_ | refine bI ?_ ?_ | refine bL ?_)
  | refine aC rfl ?_)
 rw [aA _ (by omega),SH _ (by omega)]
 rfl
theorem Gb (n v:Int)(hn:1≤n∧n≤4)(hv:1≤v∧v≤5):FunOk PP W qW iF [i64 n,i64 v] [sT (nmT n v)]:=by
 refine Lp (aI ?_)
 (repeat' first
  | (refine run_ite rfl (fun h=>?_) (fun h=>?_)<;>(try simp (disch:=omega) only [zB,eqDs,aZ,Nat.reduceAdd,aA] at h)<;>(try (exfalso;omega)))
  | refine aG rfl ?_
  | refine aH rfl ?_
  | refine aE rfl (KP v (by omega)) rfl ?_
  | refine aB rfl ?_ ?_
  | (refine aD rfl ?_;first | refine rb ?_ | refine ri ?_ | refine bI ?_ ?_ | refine bL ?_)
  | refine aC rfl ?_)
 ·rw [bA_size]
  show 1+1≤lim
  decide
 ·rw [aA (97+n) (by omega),aA _ (by omega),SH _ (by omega)]
  show [D.str (bA [u8 (97+n - 1)]++bA [u8 (48+v)])]=_
  rw [bA_app]
  rfl
theorem Hz (l:List UInt8)(i:Int)(hi:i.toNat<l.length):VQ (bA l) i=((ix l i).toNat:Int):=by
 unfold VQ
 have h:i.toNat<(bA l).size:=by rw [bA_size];exact hi
 rw [getElem?_pos (bA l) i.toNat h]
 have e1:ix l i=l[i.toNat]:=by
  simp [ix,hi]
  rfl
 rw [e1]
 rfl
abbrev eB8 (b:UInt8):List D:=[.int .u8 b.toNat]
theorem PU (l:List UInt8):rX (bA l)=l.map eB8:=rfl
theorem XY (l:List UInt8)(i:Int)(hi:i.toNat<l.length):cI (l.map eB8) i 0=((ix l i).toNat:Int):=by
 simp [cI,gP,hi,sI]
theorem KQ (l:List UInt8)(i:Int)(h0:0≤i)(hi:i<l.length)(x:Int)(hx:x=((ix l i).toNat:Int)):
  (IntKind.i64.wrap (IntKind.i64.wrap (IntKind.i64.wrap (31*zK (l.take i.toNat))+IntKind.i64.wrap x)+1)).tmod 9973=zK (l.take (i+1).toNat):=by
 have hr:=MP (l.take i.toNat)
 have hb:(ix l i).toNat<256:=(ix l i).toNat_lt
 rw [aA x (by omega),aA (31*_) (by omega),aA (_+x) (by omega),aA _ (by omega),jO l h0 hi]
 unfold zK at hr ⊢
 rw [List.foldl_append]
 simp only [List.foldl_cons,List.foldl_nil]
 rw [hx]
 rfl
theorem Gc (l:List UInt8)(hl:l.length≤1000000):FunOk PP W AY nB [sT l] [i64 (zK l)]:=by
 refine Ot (aI ?_)
 refine aU rfl (fun i:Int=>0≤i∧i≤l.length) (fun i=>[(4,.val (i64 i)),(3,.val (i64 (zK (l.take i.toNat)))),(0,.val (sT l))]) (fun i=>(l.length - i).toNat) 0 ⟨by omega,by omega⟩ ⟨rfl,rfl,rfl,trivial⟩ rfl ?_
 rintro i e ⟨h0,hN⟩
 have hsz:=bA_size l
 (repeat' first
  | (refine run_ite rfl (fun h=>?_) (fun h=>?_)<;>(try simp (disch:=omega) only [zB,eqDs,aZ,Nat.reduceAdd,aA] at h)<;>(try (exfalso;omega)))
  | refine aG rfl ?_
  | refine aH rfl ?_
  | (refine aT rfl (Exists.intro (i+1) ⟨by omega,⟨by omega,by omega⟩,aO (aA _ (by omega)),aO (KQ l i h0 (by omega) _ (Hz l i (by omega))),rfl,trivial⟩))
  | refine aB rfl ?_ ?_
  | (refine aD rfl ?_;first | refine rb ?_ | refine ri ?_ | refine bI ?_ ?_ | refine bL ?_)
  | refine aC rfl ?_)
 rw [List.take_of_length_le (by omega)]
theorem PV (l:List UInt8)(hl:l.length≤1000000):FunOk PP W AX nA [sT l] [i64 (zK l)]:=by
 refine Ok (aI ?_)
 refine aB rfl (by rw [bA_size];unfold lim;omega) ?_
 rw [PU]
 refine aU rfl (fun i:Int=>0≤i∧i≤l.length) (fun i=>[(9,.val (i64 i)),(3,.val (i64 (zK (l.take i.toNat)))),(7,.val [.sl (l.map eB8)]),(8,.val (i64 (l.map eB8).length))]) (fun i=>(l.length - i).toNat) 0 ⟨by omega,by omega⟩ ⟨rfl,rfl,rfl,rfl,trivial⟩ rfl ?_
 rintro i e ⟨h0,hN⟩
 (repeat' first
  | (refine run_ite rfl (fun h=>?_) (fun h=>?_)<;>(try simp (disch:=omega) only [zB,eqDs,aZ,Nat.reduceAdd,aA] at h)<;>(try (exfalso;omega)))
  | refine aG rfl ?_
  | refine aH rfl ?_
  | (refine aT rfl (Exists.intro (i+1) ⟨by omega,⟨by omega,by omega⟩,aO (aA _ (by omega)),aO (KQ l i h0 (by omega) _ (XY l i (by omega))),rfl,rfl,trivial⟩))
  | refine aB rfl ?_ ?_
  | (refine aD rfl ?_;first | refine rb ?_ | refine ri ?_ | refine bI ?_ ?_ | refine bL ?_)
  | refine aC rfl ?_)
 rw [List.take_of_length_le (by omega)]
theorem PW (p:Pk)(hs:SmP p):FunOk PP W wG kO [ePk p] [eMt (nV p)]:=by
 refine LZ (aI ?_)
 have hl:=uL p
 (repeat' first
  | (refine run_ite rfl (fun h=>?_) (fun h=>?_)<;>(try simp (disch:=omega) only [zB,eqDs,aZ,Nat.reduceAdd,aA] at h)<;>(try (exfalso;omega)))
  | refine aG rfl ?_
  | refine aH rfl ?_
  | refine aE rfl (Bv p hs) rfl ?_
  | refine aE rfl (PV (textM p) (by omega)) rfl ?_
  | refine aB rfl ?_ ?_
  | (refine aD rfl ?_;first | refine rb ?_ | refine ri ?_ | refine bI ?_ ?_ | refine bL ?_)
  | refine aC rfl ?_)
 rfl

/-! The specification's text of a package. -/
theorem UY (n v:Int):(nmT n v).length=2:=rfl
theorem YI (b:UInt8):(⟨#[b]⟩:ByteArray).size=1:=rfl
theorem uM {α:Type}(f:α→List UInt8)(n:Nat)(hf:∀ x,(f x).length=n):∀ xs:List α,(xs.flatMap f).length=n*xs.length
 | []=>by simp
 | x::r=>by
  have:=uM f n hf r
  simp [hf,this,Nat.mul_add,Nat.add_comm]
theorem VS {α:Type}[Inhabited α](f:α→List UInt8)(xs:List α){i:Int}(h0:0≤i)(h1:i<xs.length):(xs.take (i+1).toNat).flatMap f=(xs.take i.toNat).flatMap f++f (ix xs i):=by
 rw [jO xs h0 h1]
 simp
theorem UZ (acc:List UInt8)(f:P2):bA acc++⟨#[32]⟩++bA [u8 (48+f.a)]++⟨#[58]⟩++bA [u8 (48+f.b)]=bA (acc++fT f):=by
 show bA acc++bA [32]++bA [u8 (48+f.a)]++bA [58]++bA [u8 (48+f.b)]=_
 simp only [bA_app,List.append_assoc]
 rfl
theorem Ua (acc:List UInt8)(f:P2):bA acc++⟨#[32]⟩++bA (nmT f.a f.b)=bA (acc++dT f):=by
 show bA acc++bA [32]++bA (nmT f.a f.b)=_
 simp only [bA_app,List.append_assoc]
 rfl
theorem KR (p:Pk)(hs:SmP p):FunOk PP W tA iZ [ePk p] [sT (textM p)]:=by
 refine Jg (aI ?_)
 (repeat' first
  | (refine run_ite rfl (fun h=>?_) (fun h=>?_)<;>(try simp (disch:=omega) only [zB,eqDs,aZ,Nat.reduceAdd,aA] at h)<;>(try (exfalso;omega)))
  | refine aG rfl ?_
  | refine aH rfl ?_
  | refine aE rfl (GW p hs) rfl ?_
  | refine aB rfl ?_ ?_
  | (refine aD rfl ?_;first | refine rb ?_ | refine ri ?_ | refine bI ?_ ?_ | refine bL ?_)
  | refine aC rfl ?_)
 ·rw [textM,if_neg h]
  rfl
 have h1:(p.files.length:Int)≤2:=h.2.2.1.2
 have h2:(p.deps.length:Int)≤2:=h.2.2.2.2
 have hT:textM p=nmT p.name p.ver++p.files.flatMap fT++p.deps.flatMap dT:=by rw [textM,if_pos h]
 rw [hT]
 have hF:=h.2.2.1.1
 have hD:=h.2.2.2.1
 have hn:(nmT p.name p.ver).length=2:=rfl
 have hfl:=uM fT 4 (fun _=>rfl) p.files
 (repeat' first
  | (refine run_ite rfl (fun h=>?_) (fun h=>?_)<;>(try simp (disch:=omega) only [zB,eqDs,aZ,Nat.reduceAdd,aA] at h)<;>(try (exfalso;omega)))
  | refine aG rfl ?_
  | refine aH rfl ?_
  | refine aE rfl (Gb p.name p.ver h.1 h.2.1) rfl ?_
  | refine aB rfl ?_ ?_
  | (refine aD rfl ?_;first | refine rb ?_ | refine ri ?_ | refine bI ?_ ?_ | refine bL ?_)
  | refine aC rfl ?_)
 refine aU rfl (fun i:Int=>0≤i∧i≤p.files.length) (fun i=>[(4,.val (i64 i)),(3,.val (sT (nmT p.name p.ver++(p.files.take i.toNat).flatMap fT))),(1,.val (ePk p))]) (fun i=>(p.files.length - i).toNat) 0 ⟨by omega,by omega⟩ ⟨rfl,rfl,rfl,trivial⟩ rfl ?_
 rintro i e ⟨h0,hN⟩
 by_cases hi:i<p.files.length
 ·obtain ⟨fa,fb,_⟩:=hF i h0 hi
  have hl:(nmT p.name p.ver++(p.files.take i.toNat).flatMap fT).length≤10:=by
   rw [List.length_append,uM fT 4 (fun _=>rfl),List.length_take]
   omega
  (repeat' first
  | (refine run_ite rfl (fun h=>?_) (fun h=>?_)<;>(try simp (disch:=omega) only [zB,eqDs,aZ,Nat.reduceAdd,aA] at h)<;>(try (exfalso;omega)))
  | refine aG rfl ?_
  | refine aH rfl ?_
  | refine aE rfl (KP _ (by simp only [zB,eqDs,aZ,Nat.reduceAdd];omega)) rfl ?_
  | (refine aB rfl (by simp only [ByteArray.size_append,bA_size,YI,List.length_cons,List.length_nil];unfold lim;omega) ?_)
  | (refine aT rfl (Exists.intro (i+1) ⟨by omega,⟨by omega,by omega⟩,aO (aA _ (by omega)),?_,rfl,trivial⟩))
  | refine aB rfl ?_ ?_
  | (refine aD rfl ?_;first | refine rb ?_ | refine ri ?_ | refine bI ?_ ?_ | refine bL ?_)
  | refine aC rfl ?_)
  have hx:(⟨cI (p.files.map eP2) i 0,cI (p.files.map eP2) i 1⟩:P2)=ix p.files i:=by rw [HK,HL]
  exact Nf ((UZ (nmT p.name p.ver++(p.files.take i.toNat).flatMap fT) ⟨cI (p.files.map eP2) i 0,cI (p.files.map eP2) i 1⟩).trans (by rw [hx,VS fT p.files h0 hi,List.append_assoc]))
 ·have ht:p.files.take i.toNat=p.files:=List.take_of_length_le (by omega)
  rw [ht]
  (repeat' first
  | (refine run_ite rfl (fun h=>?_) (fun h=>?_)<;>(try simp (disch:=omega) only [zB,eqDs,aZ,Nat.reduceAdd,aA] at h)<;>(try (exfalso;omega)))
  | refine aG rfl ?_
  | refine aH rfl ?_
  | refine aB rfl ?_ ?_
  | (refine aD rfl ?_;first | refine rb ?_ | refine ri ?_ | refine bI ?_ ?_ | refine bL ?_)
  | refine aC rfl ?_)
  refine aU rfl (fun i:Int=>0≤i∧i≤p.deps.length) (fun i=>[(5,.val (i64 i)),(3,.val (sT (nmT p.name p.ver++p.files.flatMap fT++(p.deps.take i.toNat).flatMap dT))),(1,.val (ePk p))]) (fun i=>(p.deps.length - i).toNat) 0 ⟨by omega,by omega⟩ ⟨rfl,Nf (by simp),rfl,trivial⟩ rfl ?_
  rintro k e ⟨k0,kN⟩
  by_cases hk:k<p.deps.length
  ·obtain ⟨fa,_,fb,_⟩:=hD k k0 hk
   have hl:(nmT p.name p.ver++p.files.flatMap fT++(p.deps.take k.toNat).flatMap dT).length≤16:=by
    rw [List.length_append,List.length_append,uM dT 3 (fun _=>rfl),List.length_take,hfl]
    omega
   have hn2:(nmT (ix p.deps k).a (ix p.deps k).b).length=2:=rfl
   (repeat' first
  | (refine run_ite rfl (fun h=>?_) (fun h=>?_)<;>(try simp (disch:=omega) only [zB,eqDs,aZ,Nat.reduceAdd,aA] at h)<;>(try (exfalso;omega)))
  | refine aG rfl ?_
  | refine aH rfl ?_
  | refine aE rfl (Gb _ _ (by simp only [zB,eqDs,aZ,Nat.reduceAdd];exact fa) (by simp only [zB,eqDs,aZ,Nat.reduceAdd];exact fb)) rfl ?_
  | (refine aB rfl (by simp only [ByteArray.size_append,bA_size,YI,UY];unfold lim;omega) ?_)
  | (refine aT rfl (Exists.intro (k+1) ⟨by omega,⟨by omega,by omega⟩,aO (aA _ (by omega)),?_,rfl,trivial⟩))
  | refine aB rfl ?_ ?_
  | (refine aD rfl ?_;first | refine rb ?_ | refine ri ?_ | refine bI ?_ ?_ | refine bL ?_)
  | refine aC rfl ?_)
   have hx:(⟨cI (p.deps.map eP2) k 0,cI (p.deps.map eP2) k 1⟩:P2)=ix p.deps k:=by rw [HK,HL]
   exact Nf ((Ua (nmT p.name p.ver++p.files.flatMap fT++(p.deps.take k.toNat).flatMap dT) ⟨cI (p.deps.map eP2) k 0,cI (p.deps.map eP2) k 1⟩).trans (by rw [hx,VS dT p.deps k0 hk];simp only [List.append_assoc]))
  ·have ht:p.deps.take k.toNat=p.deps:=List.take_of_length_le (by omega)
   rw [ht]
   (repeat' first
  | (refine run_ite rfl (fun h=>?_) (fun h=>?_)<;>(try simp (disch:=omega) only [zB,eqDs,aZ,Nat.reduceAdd,aA] at h)<;>(try (exfalso;omega)))
  | refine aG rfl ?_
  | refine aH rfl ?_
  | refine aB rfl ?_ ?_
  | (refine aD rfl ?_;first | refine rb ?_ | refine ri ?_ | refine bI ?_ ?_ | refine bL ?_)
  | refine aC rfl ?_)
   rfl
end
section
open Classical
variable {W:Wld}

theorem IA {p q:Mt}(h1:p.name=q.name)(h2:p.ver=q.ver)(h3:p.sum=q.sum):p=q:=by cases p;cases q;simp_all
theorem Ub (a b:List Mt)(ha:a.length≤lim):FunOk PP W lZ dN [nS a,nS b] [bo (decide (a=b))]:=by
 refine CI (aI ?_)
 unfold lim at ha
 (repeat' first
  | (refine run_ite rfl (fun h=>?_) (fun h=>?_)<;>(try simp (disch:=omega) only [zB,eqDs,aZ,Nat.reduceAdd,aA] at h)<;>(try (exfalso;omega)))
  | refine aG rfl ?_
  | refine aH rfl ?_
  | refine aB rfl ?_ ?_
  | (refine aD rfl ?_;first | refine rb ?_ | refine ri ?_ | refine bI ?_ ?_ | refine bL ?_)
  | refine aC rfl ?_)
 ·exact fD (fun h'=>by simp_all)
 have hn:a.length=b.length:=by omega
 clear h
 refine aU rfl (fun i:Int=>0≤i∧i≤a.length∧mF i (fun j=>ix a j=ix b j)) (fun i=>[(13,.val (i64 i)),(0,.val (nS a)),(1,.val (nS b)),(12,.val (i64 (a.map eMt).length))]) (fun i=>(a.length - i).toNat) 0 ⟨by omega,by omega,bE _⟩ ⟨rfl,rfl,rfl,rfl,trivial⟩ rfl ?_
 rintro i e ⟨h0,hN,hP⟩
 (repeat' first
  | (refine run_ite rfl (fun h=>?_) (fun h=>?_)<;>(try simp (disch:=omega) only [zB,eqDs,aZ,Nat.reduceAdd,aA] at h)<;>(try (exfalso;omega)))
  | refine aG rfl ?_
  | refine aH rfl ?_
  | (refine aT rfl (Exists.intro (i+1) ⟨by omega,⟨by omega,by omega,cF hP ?_⟩,aO (aA _ (by omega)),rfl,rfl,rfl,trivial⟩))
  | refine aB rfl ?_ ?_
  | (refine aD rfl ?_;first | refine rb ?_ | refine ri ?_ | refine bI ?_ ?_ | refine bL ?_)
  | refine aC rfl ?_)
 ·exact fD (fun h'=>by subst h';exact h rfl rfl rfl)
 ·exact IA h.1 h.2.1 h.2.2
 ·exact tD (gS hn (dF hP (by omega)))
theorem SI (l:List Mt)(m:Mt)(hl:l.length≤lim):FunOk PP W lX dM [nS l,eMt m] [i64 (pY (fun y=>y=m) l l.length 0)]:=by
 refine CG (aI ?_)
 unfold lim at hl
 refine aU rfl (fun i:Int=>0≤i∧i≤l.length∧pY (fun y=>y=m) l l.length 0=pY (fun y=>y=m) l (l.length - i).toNat i) (fun i=>[(8,.val (i64 i)),(0,.val (nS l)),(3,.val (eMt m)),(7,.val (i64 (l.map eMt).length))]) (fun i=>(l.length - i).toNat) 0 ⟨by omega,by omega,by simp⟩ ⟨rfl,rfl,rfl,rfl,trivial⟩ rfl ?_
 rintro i e ⟨h0,hN,hP⟩
 (repeat' first
  | (refine run_ite rfl (fun h=>?_) (fun h=>?_)<;>(try simp (disch:=omega) only [zB,eqDs,aZ,Nat.reduceAdd,aA] at h)<;>(try (exfalso;omega)))
  | refine aG rfl ?_
  | refine aH rfl ?_
  | (refine aT rfl (Exists.intro (i+1) ⟨by omega,⟨by omega,by omega,?_⟩,aO (aA _ (by omega)),rfl,rfl,rfl,trivial⟩))
  | refine aB rfl ?_ ?_
  | (refine aD rfl ?_;first | refine rb ?_ | refine ri ?_ | refine bI ?_ ?_ | refine bL ?_)
  | refine aC rfl ?_)
 ·rw [hP,show ((l.length:Int) - i).toNat=((l.length:Int) - (i+1)).toNat+1 by omega,pY,if_pos (IA h.1.symm h.2.1.symm h.2.2.symm)]
 ·rw [hP,show ((l.length:Int) - i).toNat=((l.length:Int) - (i+1)).toNat+1 by omega,pY,if_neg (fun h'=>by subst h';exact h rfl rfl rfl)]
 ·rw [hP,show ((l.length:Int) - i).toNat=0 by omega,pY]
theorem SJ (l:List Mt)(m:Mt)(hl:l.length≤lim):FunOk PP W iC cK [nS l,eMt m] [bo (decide (m∈l))]:=by
 refine xB (aI ?_)
 (repeat' first
  | (refine run_ite rfl (fun h=>?_) (fun h=>?_)<;>(try simp (disch:=omega) only [zB,eqDs,aZ,Nat.reduceAdd,aA] at h)<;>(try (exfalso;omega)))
  | refine aG rfl ?_
  | refine aH rfl ?_
  | refine aE rfl (SI l m hl) rfl ?_
  | refine aB rfl ?_ ?_
  | (refine aD rfl ?_;first | refine rb ?_ | refine ri ?_ | refine bI ?_ ?_ | refine bL ?_)
  | refine aC rfl ?_)
 simp only [YY]
 congr 1
 rw [eq_iff_iff,KB]
 exact ⟨fun ⟨y,h1,h2⟩=>h2▸h1,fun h=>⟨m,h,rfl⟩⟩

theorem KS (x:Ix)(hl:x.ms.length≤lim):FunOk PP W sZ iY [FF x] [bo (decide (MR x))]:=by
 refine Ja (aI ?_)
 unfold lim at hl
 (repeat' first
  | (refine run_ite rfl (fun h=>?_) (fun h=>?_)<;>(try simp (disch:=omega) only [zB,eqDs,aZ,Nat.reduceAdd,aA] at h)<;>(try (exfalso;omega)))
  | refine aG rfl ?_
  | refine aH rfl ?_
  | refine aE rfl (qZ ..) rfl ?_
  | refine aB rfl ?_ ?_
  | (refine aD rfl ?_;first | refine rb ?_ | refine ri ?_ | refine bI ?_ ?_ | refine bL ?_)
  | refine aC rfl ?_)
 ·exact fD (p:=MR x) (fun h'=>h h'.1)
 ·exact fD (p:=MR x) (fun h'=>h h'.2.1)
 ·exact fD (p:=MR x) (fun h'=>by have:=h'.2.2.1;omega)
 rename_i q1 q2
 refine aU rfl (fun i:Int=>0≤i∧i≤x.ms.length∧mF i (MQ x.ms)) (fun i=>[(3,.val (i64 i)),(1,.val (FF x))]) (fun i=>(x.ms.length - i).toNat) 0 ⟨by omega,by omega,bE _⟩ ⟨rfl,rfl,trivial⟩ rfl ?_
 rintro i e ⟨h0,hN,hP⟩
 (repeat' first
  | (refine run_ite rfl (fun h=>?_) (fun h=>?_)<;>(try simp (disch:=omega) only [zB,eqDs,aZ,Nat.reduceAdd,aA] at h)<;>(try (exfalso;omega)))
  | refine aG rfl ?_
  | refine aH rfl ?_
  | refine aE rfl (qZ ..) rfl ?_
  | refine aE rfl (uJ ..) rfl ?_
  | (refine aT rfl (Exists.intro (i+1) ⟨by omega,⟨by omega,by omega,cF hP (by unfold MQ;omega)⟩,aO (aA _ (by omega)),rfl,trivial⟩))
  | refine aB rfl ?_ ?_
  | (refine aD rfl ?_;first | refine rb ?_ | refine ri ?_ | refine bI ?_ ?_ | refine bL ?_)
  | refine aC rfl ?_)
 all_goals first
  | exact tD (p:=MR x) ⟨q1,q2,by omega,dF hP (by omega)⟩
  | exact fD (p:=MR x) (fun h'=>by have:=h'.2.2.2 i (by omega) (by omega);unfold MQ at this;omega)
theorem Bw (x:Ix)(hl:x.ms.length≤lim):FunOk PP W oL fU [FF x] [bo (decide (MR x))]:=by
 refine Je (aI ?_)
 unfold lim at hl
 refine aU rfl (fun i:Int=>0≤i∧i≤x.ms.length∧mF i (MQ x.ms)) (fun i=>[(8,.val (i64 i)),(1,.val (FF x)),(6,.val (nS x.ms)),(7,.val (i64 (x.ms.map eMt).length))]) (fun i=>(x.ms.length - i).toNat) 0 ⟨by omega,by omega,bE _⟩ ⟨rfl,rfl,rfl,rfl,trivial⟩ rfl ?_
 rintro i e ⟨h0,hN,hP⟩
 (repeat' first
  | (refine run_ite rfl (fun h=>?_) (fun h=>?_)<;>(try simp (disch:=omega) only [zB,eqDs,aZ,Nat.reduceAdd,aA] at h)<;>(try (exfalso;omega)))
  | refine aG rfl ?_
  | refine aH rfl ?_
  | refine aE rfl (GV ..) rfl ?_
  | refine aE rfl (Af ..) rfl ?_
  | refine aE rfl (Ei ..) rfl ?_
  | (refine aT rfl (Exists.intro (i+1) ⟨by omega,⟨by omega,by omega,cF hP (by unfold MQ;omega)⟩,aO (aA _ (by omega)),rfl,rfl,rfl,trivial⟩))
  | refine aB rfl ?_ ?_
  | (refine aD rfl ?_;first | refine rb ?_ | refine ri ?_ | refine bI ?_ ?_ | refine bL ?_)
  | refine aC rfl ?_)
 all_goals first
  | exact fD (p:=MR x) (fun h'=>by have:=h'.2.2.2 i (by omega) (by omega);unfold MQ at this;omega)
  | (refine dI (p:=MR x) ?_;simp only [List.length_map,decide_eq_true_eq];exact ⟨fun h'=>⟨by assumption,by assumption,h',dF hP (by omega)⟩,fun h'=>h'.2.2.1⟩)
  | exact fD (p:=MR x) (fun h'=>absurd h'.2.1 (by assumption))
  | exact fD (p:=MR x) (fun h'=>absurd h'.1 (by assumption))
theorem PY (x:Ix)(hl:x.ms.length≤lim):FunOk PP W nL eC [FF x,FF YP] [bo (decide (x.num=0∧x.till=0∧x.ms=[]))]:=by
 refine EM (aI ?_)
 (repeat' first
  | (refine run_ite rfl (fun h=>?_) (fun h=>?_)<;>(try simp (disch:=omega) only [zB,eqDs,aZ,Nat.reduceAdd,aA] at h)<;>(try (exfalso;omega)))
  | refine aG rfl ?_
  | refine aH rfl ?_
  | refine aE rfl (Ub x.ms [] hl) rfl ?_
  | refine aB rfl ?_ ?_
  | (refine aD rfl ?_;first | refine rb ?_ | refine ri ?_ | refine bI ?_ ?_ | refine bL ?_)
  | refine aC rfl ?_)
 all_goals simp_all [YP]
theorem Bx (t:Tu)(hk:t.r.keys.length≤lim)(hl:t.x.ms.length≤lim):FunOk PP W sO iR [Nd t] [bo (decide (Hx t))]:=by
 refine JM (aI ?_)
 (repeat' first
  | (refine run_ite rfl (fun h=>?_) (fun h=>?_)<;>(try simp (disch:=omega) only [zB,eqDs,aZ,Nat.reduceAdd,aA] at h)<;>(try (exfalso;omega)))
  | refine aG rfl ?_
  | refine aH rfl ?_
  | refine aE rfl (MN t.r hk) rfl ?_
  | refine aE rfl (KS t.x hl) rfl ?_
  | refine aB rfl ?_ ?_
  | (refine aD rfl ?_;first | refine rb ?_ | refine ri ?_ | refine bI ?_ ?_ | refine bL ?_)
  | refine aC rfl ?_)
 ·exact fD (p:=Hx t) (fun h'=>h h'.1)
 ·refine dI (p:=Hx t) ?_
  unfold Hx
  rw [if_pos h,decide_eq_true_eq]
  exact ⟨fun h'=>⟨by assumption,h'⟩,fun h'=>h'.2⟩
 ·rename_i q1 q2 q3
  refine dI (p:=Hx t) ?_
  unfold Hx
  rw [if_neg (by rw [q2];simp)]
  simp only [List.length_map,beq_iff_eq]
  exact ⟨fun h'=>⟨q1,q3,h,List.length_eq_zero_iff.1 (by omega)⟩,fun h'=>by rw [h'.2.2.2];rfl⟩
 ·rename_i q1 q2 q3
  exact fD (p:=Hx t) (fun h'=>by unfold Hx at h';rw [if_neg (by rw [q2];simp)] at h';exact h h'.2.2.1)
 ·rename_i q1 q2
  exact fD (p:=Hx t) (fun h'=>by unfold Hx at h';rw [if_neg (by rw [q2];simp)] at h';exact h h'.2.1)
theorem oP (t:Tu)(hk:t.r.keys.length≤lim)(hl:t.x.ms.length≤lim):FunOk PP W sX iX [Nd t] [bo (decide (Hx t))]:=by
 refine JY (aI ?_)
 (repeat' first
  | (refine run_ite rfl (fun h=>?_) (fun h=>?_)<;>(try simp (disch:=omega) only [zB,eqDs,aZ,Nat.reduceAdd,aA] at h)<;>(try (exfalso;omega)))
  | refine aG rfl ?_
  | refine aH rfl ?_
  | refine aE rfl (MO t.r hk) rfl ?_
  | refine aE rfl (Bw t.x hl) rfl ?_
  | refine aE rfl (PY t.x hl) rfl ?_
  | refine aB rfl ?_ ?_
  | (refine aD rfl ?_;first | refine rb ?_ | refine ri ?_ | refine bI ?_ ?_ | refine bL ?_)
  | refine aC rfl ?_)
 ·exact fD (p:=Hx t) (fun h'=>h h'.1)
 ·refine dI (p:=Hx t) ?_
  unfold Hx
  rw [if_pos h,decide_eq_true_eq]
  exact ⟨fun h'=>⟨by assumption,h'⟩,fun h'=>h'.2⟩
 ·refine dI (p:=Hx t) ?_
  unfold Hx
  rw [if_neg (by rw [h];simp),decide_eq_true_eq]
  exact ⟨fun h'=>⟨by assumption,h'⟩,fun h'=>h'.2⟩

/-! What lacks, and what is kept. -/
end
section
open Classical
variable {W:Wld}

theorem Uc {p q:Mt}(h1:p.name=q.name)(h2:p.ver=q.ver)(h3:p.sum=q.sum):p=q:=by cases p;cases q;simp_all
theorem Ud {ys:List Mt}{i v:Int}(h0:0≤i)(h2:i<ys.length):rQ (ys.map eMt) i 0 [.int .i64 v]=(ys.set i.toNat ⟨v,(ix ys i).ver,(ix ys i).sum⟩).map eMt:=kA h0 h2 rfl
theorem Ue {ys:List Mt}{i v:Int}(h0:0≤i)(h2:i<ys.length):rQ (ys.map eMt) i 1 [.int .i64 v]=(ys.set i.toNat ⟨(ix ys i).name,v,(ix ys i).sum⟩).map eMt:=kA h0 h2 rfl
theorem Uf {ys:List Mt}{i v:Int}(h0:0≤i)(h2:i<ys.length):rQ (ys.map eMt) i 2 [.int .i64 v]=(ys.set i.toNat ⟨(ix ys i).name,(ix ys i).ver,v⟩).map eMt:=kA h0 h2 rfl
theorem Ug {ys:List Mt}{i v u t:Int}(h0:0≤i)(h2:i<ys.length):rQ (ys.map eMt) i 0 [.int .i64 v,.int .i64 u,.int .i64 t]=(ys.set i.toNat ⟨v,u,t⟩).map eMt:=kA h0 h2 rfl
theorem SK (m:Mt):FunOk PP W wW jY [eMt m] [eMt m]:=by
 refine Ho (aI ?_)
 (repeat' first
  | (refine run_ite rfl (fun h=>?_) (fun h=>?_)<;>(try simp (disch:=omega) only [zB,eqDs,aZ,Nat.reduceAdd,aA] at h)<;>(try (exfalso;omega)))
  | refine aG rfl ?_
  | refine aH rfl ?_
  | refine aB rfl ?_ ?_
  | (refine aD rfl ?_;first | refine rb ?_ | refine ri ?_ | refine bI ?_ ?_ | refine bL ?_)
  | refine aC rfl ?_)
 rfl
theorem PZ (l:List Mt)(hl:l.length≤lim):FunOk PP W tI gX [nS l] [nS l]:=by
 refine FM (aI ?_)
 unfold lim at hl
 (repeat' first
  | (refine run_ite rfl (fun h=>?_) (fun h=>?_)<;>(try simp (disch:=omega) only [zB,eqDs,aZ,Nat.reduceAdd,aA] at h)<;>(try (exfalso;omega)))
  | refine aG rfl ?_
  | refine aH rfl ?_
  | refine aB rfl ?_ ?_
  | (refine aD rfl ?_;first | refine rb ?_ | refine ri ?_ | refine bI ?_ ?_ | refine bL ?_)
  | refine aC rfl ?_)
 ·simp [lim];omega
 refine aU rfl (fun x:Int×List Mt=>0≤x.1∧x.1≤l.length∧x.2.length=l.length∧mF x.1 (fun j=>ix x.2 j=ix l j)) (fun x=>[(4,.val (i64 x.1)),(3,.val (nS x.2)),(0,.val (nS l))]) (fun x=>(l.length - x.1).toNat) (0,List.replicate l.length ⟨0,0,0⟩) ⟨by omega,by simp,by simp,bE _⟩ ⟨rfl,bU (by simp),rfl,trivial⟩ rfl ?_
 rintro ⟨i,ys⟩ e ⟨h0,hN,hy,hP⟩
 dsimp only at h0 hN hy hP ⊢
 (repeat' first
  | (refine run_ite rfl (fun h=>?_) (fun h=>?_)<;>(try simp (disch:=omega) only [zB,eqDs,aZ,Nat.reduceAdd,aA] at h)<;>(try (exfalso;omega)))
  | refine aG rfl ?_
  | refine aH rfl ?_
  | refine iA rfl (SK (ix l i)) rfl ?_
  | (refine eG rfl (jZ (sz:=3) h0 (by omega) (by omega) (fun _=>rfl) (Nat.le_of_ble_eq_true rfl)) (bU (Ug h0 (by omega))) ?_)
  | (refine aT rfl (Exists.intro (i+1,ys.set i.toNat (ix l i)) ⟨by dsimp only;omega,⟨by dsimp only;omega,by dsimp only;omega,by simpa using hy,zG h0 (by omega) hP⟩,aO (aA _ (by omega)),rfl,rfl,trivial⟩))
  | refine aB rfl ?_ ?_
  | (refine aD rfl ?_;first | refine rb ?_ | refine ri ?_ | refine bI ?_ ?_ | refine bL ?_)
  | refine aC rfl ?_)
 ·exact bU (by rw [gS hy (dF hP (by omega))])
theorem Pa (x:Ix)(hl:x.ms.length≤lim):FunOk PP W tC gY [FF x] [FF x]:=by
 refine FO (aI ?_)
 (repeat' first
  | (refine run_ite rfl (fun h=>?_) (fun h=>?_)<;>(try simp (disch:=omega) only [zB,eqDs,aZ,Nat.reduceAdd,aA] at h)<;>(try (exfalso;omega)))
  | refine aG rfl ?_
  | refine aH rfl ?_
  | refine aE rfl (PZ x.ms hl) rfl ?_
  | refine aB rfl ?_ ?_
  | (refine aD rfl ?_;first | refine rb ?_ | refine ri ?_ | refine bI ?_ ?_ | refine bL ?_)
  | refine aC rfl ?_)
 rfl
theorem Pb (t:Tu)(hk:t.r.keys.length≤lim)(hl:t.x.ms.length≤lim):FunOk PP W iO dA [Nd t] [Nd t]:=by
 refine FQ (aI ?_)
 (repeat' first
  | (refine run_ite rfl (fun h=>?_) (fun h=>?_)<;>(try simp (disch:=omega) only [zB,eqDs,aZ,Nat.reduceAdd,aA] at h)<;>(try (exfalso;omega)))
  | refine aG rfl ?_
  | refine aH rfl ?_
  | refine aE rfl (SB t.r hk) rfl ?_
  | refine aE rfl (Pa t.x hl) rfl ?_
  | refine aB rfl ?_ ?_
  | (refine aD rfl ?_;first | refine rb ?_ | refine ri ?_ | refine bI ?_ ?_ | refine bL ?_)
  | refine aC rfl ?_)
 rfl

theorem MW (l:List Mt)(left:Int)(h:0≤left∧left≤1048576)(hb:(l.length:Int)≤mx):FunOk PP W tG jD [nS l,i64 left] [i64 (Ek left l.length)]:=by
 refine Jn (aI ?_)
 unfold mx at hb
 (repeat' first
  | (refine run_ite rfl (fun h=>?_) (fun h=>?_)<;>(try simp (disch:=omega) only [zB,eqDs,aZ,Nat.reduceAdd,aA] at h)<;>(try (exfalso;omega)))
  | refine aG rfl ?_
  | refine aH rfl ?_
  | refine aB rfl ?_ ?_
  | (refine aD rfl ?_;first | refine rb ?_ | refine ri ?_ | refine bI ?_ ?_ | refine bL ?_)
  | refine aC rfl ?_)
 ·rw [cY (by omega)]
 ·rw [dZ (by omega),List.length_map,aA _ (by omega)]
theorem MX (x:Ix)(left:Int)(h:0≤left∧left≤1048576)(hb:(x.ms.length:Int)≤mx):FunOk PP W tB jA [FF x,i64 left] [i64 (Ek left x.ms.length)]:=by
 refine Ji (aI ?_)
 have f1:=MW (W:=W) x.ms left h hb
 by_cases c1:left<x.ms.length
 ·rw [cY c1] at f1 ⊢
  (repeat' first
  | (refine run_ite rfl (fun h=>?_) (fun h=>?_)<;>(try simp (disch:=omega) only [zB,eqDs,aZ,Nat.reduceAdd,aA] at h)<;>(try (exfalso;omega)))
  | refine aG rfl ?_
  | refine aH rfl ?_
  | refine aE rfl (f1) rfl ?_
  | refine aB rfl ?_ ?_
  | (refine aD rfl ?_;first | refine rb ?_ | refine ri ?_ | refine bI ?_ ?_ | refine bL ?_)
  | refine aC rfl ?_)
  rfl
 ·rw [dZ (by omega)] at f1 ⊢
  (repeat' first
  | (refine run_ite rfl (fun h=>?_) (fun h=>?_)<;>(try simp (disch:=omega) only [zB,eqDs,aZ,Nat.reduceAdd,aA] at h)<;>(try (exfalso;omega)))
  | refine aG rfl ?_
  | refine aH rfl ?_
  | refine aE rfl (f1) rfl ?_
  | refine aB rfl ?_ ?_
  | (refine aD rfl ?_;first | refine rb ?_ | refine ri ?_ | refine bI ?_ ?_ | refine bL ?_)
  | refine aC rfl ?_)
  rfl
theorem MY (t:Tu)(left:Int)(h:0≤left∧left≤1048576)(h1:(t.r.keys.length:Int)≤mx)(h2:(t.x.ms.length:Int)≤mx):FunOk PP W sS iU [Nd t,i64 left] [i64 (Ek left (t.r.keys.length+t.x.ms.length))]:=by
 refine JS (aI ?_)
 have f1:=PO (W:=W) t.r left h h1
 by_cases c1:left<t.r.keys.length
 ·rw [cY c1] at f1
  rw [cY (by omega)]
  (repeat' first
  | (refine run_ite rfl (fun h=>?_) (fun h=>?_)<;>(try simp (disch:=omega) only [zB,eqDs,aZ,Nat.reduceAdd,aA] at h)<;>(try (exfalso;omega)))
  | refine aG rfl ?_
  | refine aH rfl ?_
  | refine aE rfl (f1) rfl ?_
  | refine aB rfl ?_ ?_
  | (refine aD rfl ?_;first | refine rb ?_ | refine ri ?_ | refine bI ?_ ?_ | refine bL ?_)
  | refine aC rfl ?_)
  rfl
 ·rw [dZ (by omega)] at f1
  have f2:=MX (W:=W) t.x (left - t.r.keys.length) (by omega) h2
  by_cases c2:left - t.r.keys.length<t.x.ms.length
  ·rw [cY c2] at f2
   rw [cY (by omega)]
   (repeat' first
  | (refine run_ite rfl (fun h=>?_) (fun h=>?_)<;>(try simp (disch:=omega) only [zB,eqDs,aZ,Nat.reduceAdd,aA] at h)<;>(try (exfalso;omega)))
  | refine aG rfl ?_
  | refine aH rfl ?_
  | refine aE rfl (f1) rfl ?_
  | refine aE rfl (f2) rfl ?_
  | refine aB rfl ?_ ?_
  | (refine aD rfl ?_;first | refine rb ?_ | refine ri ?_ | refine bI ?_ ?_ | refine bL ?_)
  | refine aC rfl ?_)
   rfl
  ·rw [dZ (by omega)] at f2
   rw [dZ (by omega)]
   (repeat' first
  | (refine run_ite rfl (fun h=>?_) (fun h=>?_)<;>(try simp (disch:=omega) only [zB,eqDs,aZ,Nat.reduceAdd,aA] at h)<;>(try (exfalso;omega)))
  | refine aG rfl ?_
  | refine aH rfl ?_
  | refine aE rfl (f1) rfl ?_
  | refine aE rfl (f2) rfl ?_
  | refine aB rfl ?_ ?_
  | (refine aD rfl ?_;first | refine rb ?_ | refine ri ?_ | refine bI ?_ ?_ | refine bL ?_)
  | refine aC rfl ?_)
   omega

theorem Pc (p q:Mt):FunOk PP W wZ lC [eMt p,eMt q] [bo (decide (p=q))]:=by
 refine MF (aI ?_)
 (repeat' first
  | (refine run_ite rfl (fun h=>?_) (fun h=>?_)<;>(try simp (disch:=omega) only [zB,eqDs,aZ,Nat.reduceAdd,aA] at h)<;>(try (exfalso;omega)))
  | refine aG rfl ?_
  | refine aH rfl ?_
  | refine aB rfl ?_ ?_
  | (refine aD rfl ?_;first | refine rb ?_ | refine ri ?_ | refine bI ?_ ?_ | refine bL ?_)
  | refine aC rfl ?_)
 ·exact fD (fun h'=>by simp_all)
 ·exact fD (fun h'=>by simp_all)
 ·exact fD (fun h'=>by simp_all)
 ·exact tD (Uc (by assumption) (by assumption) (by assumption))
theorem MZ (a b:List Mt)(ha:a.length≤lim):FunOk PP W oM fX [nS a,nS b] [bo (decide (a=b))]:=by
 refine Jt (aI ?_)
 unfold lim at ha
 (repeat' first
  | (refine run_ite rfl (fun h=>?_) (fun h=>?_)<;>(try simp (disch:=omega) only [zB,eqDs,aZ,Nat.reduceAdd,aA] at h)<;>(try (exfalso;omega)))
  | refine aG rfl ?_
  | refine aH rfl ?_
  | refine aB rfl ?_ ?_
  | (refine aD rfl ?_;first | refine rb ?_ | refine ri ?_ | refine bI ?_ ?_ | refine bL ?_)
  | refine aC rfl ?_)
 ·exact fD (fun h'=>by simp_all)
 have hn:a.length=b.length:=by omega
 clear h
 refine aU rfl (fun i:Int=>0≤i∧i≤a.length∧mF i (fun j=>ix a j=ix b j)) (fun i=>[(5,.val (i64 i)),(0,.val (nS a)),(1,.val (nS b))]) (fun i=>(a.length - i).toNat) 0 ⟨by omega,by omega,bE _⟩ ⟨rfl,rfl,rfl,trivial⟩ rfl ?_
 rintro i e ⟨h0,hN,hP⟩
 (repeat' first
  | (refine run_ite rfl (fun h=>?_) (fun h=>?_)<;>(try simp (disch:=omega) only [zB,eqDs,aZ,Nat.reduceAdd,aA] at h)<;>(try (exfalso;omega)))
  | refine aG rfl ?_
  | refine aH rfl ?_
  | refine iA rfl (Pc (ix a i) (ix b i)) rfl ?_
  | (refine aT rfl (Exists.intro (i+1) ⟨by omega,⟨by omega,by omega,cF hP (by assumption)⟩,aO (aA _ (by omega)),rfl,rfl,trivial⟩))
  | refine aB rfl ?_ ?_
  | (refine aD rfl ?_;first | refine rb ?_ | refine ri ?_ | refine bI ?_ ?_ | refine bL ?_)
  | refine aC rfl ?_)
 ·exact fD (fun h'=>by subst h';exact absurd rfl (by assumption))
 ·exact tD (gS hn (dF hP (by omega)))
theorem IB (x:Ix)(hl:x.ms.length≤lim):FunOk PP W tE jB [FF x,FF x] [bo true]:=by
 refine Jk (aI ?_)
 have f:FunOk PP W oM fX [nS x.ms,nS x.ms] [bo true]:=by simpa using MZ (W:=W) x.ms x.ms hl
 (repeat' first
  | (refine run_ite rfl (fun h=>?_) (fun h=>?_)<;>(try simp (disch:=omega) only [zB,eqDs,aZ,Nat.reduceAdd,aA] at h)<;>(try (exfalso;omega)))
  | refine aG rfl ?_
  | refine aH rfl ?_
  | refine aE rfl (f) rfl ?_
  | refine aB rfl ?_ ?_
  | (refine aD rfl ?_;first | refine rb ?_ | refine ri ?_ | refine bI ?_ ?_ | refine bL ?_)
  | refine aC rfl ?_)
 all_goals first | rfl | exact absurd trivial (by assumption)
theorem Pd (t:Tu)(hk:t.r.keys.length≤lim)(hl:t.x.ms.length≤lim):FunOk PP W sU iV [Nd t,Nd t] [bo true]:=by
 refine JU (aI ?_)
 (repeat' first
  | (refine run_ite rfl (fun h=>?_) (fun h=>?_)<;>(try simp (disch:=omega) only [zB,eqDs,aZ,Nat.reduceAdd,aA] at h)<;>(try (exfalso;omega)))
  | refine aG rfl ?_
  | refine aH rfl ?_
  | refine aE rfl (KJ t.r hk) rfl ?_
  | refine aE rfl (IB t.x hl) rfl ?_
  | refine aB rfl ?_ ?_
  | (refine aD rfl ?_;first | refine rb ?_ | refine ri ?_ | refine bI ?_ ?_ | refine bL ?_)
  | refine aC rfl ?_)
 all_goals first | rfl | exact absurd trivial (by assumption)

/-! What is marked. -/
def xD (l:List Mt)(k:Int):List Mt:=(List.range l.length).map fun (j:Nat)=>⟨k+3*(j:Int),k+3*(j:Int)+1,k+3*(j:Int)+2⟩
theorem Ma (l:List Mt)(k:Int):(xD l k).length=l.length:=by simp [xD]
theorem Pe (l:List Mt)(k:Int){i:Int}(h0:0≤i)(h1:i<l.length):ix (xD l k) i=⟨k+3*i,k+3*i+1,k+3*i+2⟩:=by
 unfold xD
 rw [zH h0 h1]
 simp only [show ((i.toNat:Nat):Int)=i by omega]
theorem IC (l:List Mt)(k:Int)(h0:0≤k)(hk:k+3*l.length≤1099511627776):FunOk PP W pD eZ [nS l,i64 k] [i64 (k+3*l.length),nS (xD l k)]:=by
 refine CT (aI ?_)
 (repeat' first
  | (refine run_ite rfl (fun h=>?_) (fun h=>?_)<;>(try simp (disch:=omega) only [zB,eqDs,aZ,Nat.reduceAdd,aA] at h)<;>(try (exfalso;omega)))
  | refine aG rfl ?_
  | refine aH rfl ?_
  | refine aB rfl ?_ ?_
  | (refine aD rfl ?_;first | refine rb ?_ | refine ri ?_ | refine bI ?_ ?_ | refine bL ?_)
  | refine aC rfl ?_)
 refine aU rfl (fun x:Int×List Mt=>0≤x.1∧x.1≤l.length∧x.2.length=l.length∧mF x.1 (fun j=>ix x.2 j=⟨k+3*j,k+3*j+1,k+3*j+2⟩)) (fun x=>[(5,.val (i64 x.1)),(1,.val (i64 (k+3*x.1))),(0,.val (nS x.2))]) (fun x=>(l.length - x.1).toNat) (0,l) ⟨by omega,by simp,rfl,bE _⟩ ⟨rfl,aO (by simp),rfl,trivial⟩ rfl ?_
 rintro ⟨i,ys⟩ e ⟨i0,hN,hy,hP⟩
 dsimp only at i0 hN hy hP ⊢
 (repeat' first
  | (refine run_ite rfl (fun h=>?_) (fun h=>?_)<;>(try simp (disch:=omega) only [zB,eqDs,aZ,Nat.reduceAdd,aA] at h)<;>(try (exfalso;omega)))
  | refine aG rfl ?_
  | refine aH rfl ?_
  | (refine eG rfl (jZ (sz:=3) i0 (by first | omega | (simp only [List.length_set];omega)) (by first | omega | (simp only [List.length_set];omega)) (fun _=>rfl) (Nat.le_of_ble_eq_true rfl)) (bU (Ud i0 (by omega))) ?_)
  | (refine eG rfl (jZ (sz:=3) i0 (by first | omega | (simp only [List.length_set];omega)) (by first | omega | (simp only [List.length_set];omega)) (fun _=>rfl) (Nat.le_of_ble_eq_true rfl)) (bU ((Ue i0 (by first | omega | (simp only [List.length_set];omega))).trans (by rw [Ej i0 (by omega),List.set_set,aA _ (by omega)]))) ?_)
  | (refine eG rfl (jZ (sz:=3) i0 (by first | omega | (simp only [List.length_set];omega)) (by first | omega | (simp only [List.length_set];omega)) (fun _=>rfl) (Nat.le_of_ble_eq_true rfl)) (bU ((Uf i0 (by first | omega | (simp only [List.length_set];omega))).trans (by rw [Ej i0 (by omega),List.set_set,aA (k+3*i+1) (by omega),aA (k+3*i+1+1) (by omega),show k+3*i+1+1=k+3*i+2 by omega]))) ?_)
  | (refine aT rfl (Exists.intro (i+1,ys.set i.toNat ⟨k+3*i,k+3*i+1,k+3*i+2⟩) ⟨by dsimp only;omega,⟨by dsimp only;omega,by dsimp only;omega,by simpa using hy,zI (f:=fun j=>(⟨k+3*j,k+3*j+1,k+3*j+2⟩:Mt)) i0 (by omega) hP⟩,aO (aA _ (by omega)),aO (by rw [aA (k+3*i+1) (by omega),aA (k+3*i+1+1) (by omega),aA _ (by omega)];dsimp only;omega),rfl,trivial⟩))
  | refine aB rfl ?_ ?_
  | (refine aD rfl ?_;first | refine rb ?_ | refine ri ?_ | refine bI ?_ ?_ | refine bL ?_)
  | refine aC rfl ?_)
 ·exact aO (by omega)
 ·refine bU ?_
  rw [gS (xs:=ys) (ys:=xD l k) (by rw [Ma,hy]) (fun j j0 j1=>(hP j j0 (by omega)).trans (Pe l k j0 (by omega)).symm)]
def SL (x:Ix)(k:Int):Ix:=⟨x.num,x.till,xD x.ms k⟩
theorem ID (x:Ix)(k:Int)(h0:0≤k)(hk:k+3*x.ms.length≤1099511627776):FunOk PP W pA eY [FF x,i64 k] [i64 (k+3*x.ms.length),FF (SL x k)]:=by
 refine CQ (aI ?_)
 (repeat' first
  | (refine run_ite rfl (fun h=>?_) (fun h=>?_)<;>(try simp (disch:=omega) only [zB,eqDs,aZ,Nat.reduceAdd,aA] at h)<;>(try (exfalso;omega)))
  | refine aG rfl ?_
  | refine aH rfl ?_
  | (refine wB rfl rfl (IC x.ms k h0 hk) rfl rfl rfl rfl ?_)
  | refine aB rfl ?_ ?_
  | (refine aD rfl ?_;first | refine rb ?_ | refine ri ?_ | refine bI ?_ ?_ | refine bL ?_)
  | refine aC rfl ?_)
 all_goals rfl
def KT (t:Tu):Int:=t.r.keys.length+3*t.x.ms.length
def WX (t:Tu)(k:Int):Tu:=⟨SA t.r k,t.has,SL t.x (k+t.r.keys.length)⟩
theorem Pf (t:Tu)(k:Int)(h0:0≤k)(hk:k+KT t≤1099511627776):FunOk PP W oZ eX [Nd t,i64 k] [i64 (k+KT t),Nd (WX t k)]:=by
 refine CO (aI ?_)
 unfold KT at hk ⊢
 (repeat' first
  | (refine run_ite rfl (fun h=>?_) (fun h=>?_)<;>(try simp (disch:=omega) only [zB,eqDs,aZ,Nat.reduceAdd,aA] at h)<;>(try (exfalso;omega)))
  | refine aG rfl ?_
  | refine aH rfl ?_
  | (refine wB rfl rfl (KK t.r k h0 (by omega)) rfl rfl rfl rfl ?_)
  | (refine wB rfl rfl (ID t.x (k+t.r.keys.length) (by omega) (by omega)) rfl rfl rfl rfl ?_)
  | refine aB rfl ?_ ?_
  | (refine aD rfl ?_;first | refine rb ?_ | refine ri ?_ | refine bI ?_ ?_ | refine bL ?_)
  | refine aC rfl ?_)
 ·exact aO (by omega)
 ·rfl
end
section
open Classical
variable {W:Wld}

def gB (ws:List (List UInt8))(b:UInt8):List (List UInt8):=if b=32 then ws++[[]] else ws.set (ws.length - 1) (ix ws ((ws.length:Int) - 1)++[b])
def cG (l:List UInt8):List (List UInt8):=l.foldl gB [[]]
abbrev eW (w:List UInt8):List D:=[.str (bA w)]
abbrev XZ (l:List (List UInt8)):List D:=[.sl (l.map eW)]
theorem Uh (ws:List (List UInt8))(i:Int)(hi:i.toNat<ws.length):cS (ws.map eW) i 0=bA (ix ws i):=by
 simp [cS,gP,hi,Vy]
theorem SM (ws:List (List UInt8))(b:UInt8)(h:1≤ws.length):1≤(gB ws b).length∧(gB ws b).length≤ws.length+1:=by
 unfold gB
 split
 ·simp
 ·simp;omega
theorem zN:∀ (l:List UInt8) (ws:List (List UInt8)),1≤ws.length→1≤(l.foldl gB ws).length∧(l.foldl gB ws).length≤ws.length+l.length
 | [],ws,h=>⟨h,by simp⟩
 | b::r,ws,h=>by
  have h1:=SM ws b h
  have h2:=zN r (gB ws b) h1.1
  simp only [List.foldl_cons,List.length_cons]
  omega
theorem Mb:∀ (l:List UInt8) (ws:List (List UInt8)) (n:Nat),(∀ w∈ws,w.length≤n)→∀ w∈l.foldl gB ws,w.length≤n+l.length
 | [],ws,n,h,w,hw=>by simpa using h w hw
 | b::r,ws,n,h,w,hw=>by
  have h1:∀ w∈gB ws b,w.length≤n+1:=by
   intro w hw
   unfold gB at hw
   split at hw
   ·rcases List.mem_append.1 hw with h' | h'
    ·have:=h w h';omega
    ·rw [List.mem_singleton.1 h'];simp
   ·rcases List.mem_or_eq_of_mem_set hw with h' | h'
    ·have:=h w h';omega
    ·have hx:(ix ws ((ws.length:Int) - 1)).length≤n:=by
      by_cases hl:((ws.length:Int) - 1).toNat<ws.length
      ·exact h _ (oX (by omega) (by omega))
      ·rw [dX hl];simp [default]
     rw [h']
     simp
     omega
  have:=Mb r (gB ws b) (n+1) h1 w hw
  simp only [List.length_cons]
  omega
theorem SN {a b:UInt8}:((a.toNat:Int)=(b.toNat:Int))↔a=b:=by
 constructor
 ·intro h
  exact UInt8.toNat_inj.1 (by omega)
 ·rintro rfl;rfl
theorem SO (l:List UInt8)(hl:l.length≤2000000):FunOk PP W Ab mX [sT l,[.int .u8 32]] [XZ (cG l)]:=by
 refine OZ (aI ?_)
 refine aU rfl (fun i:Int=>0≤i∧i≤l.length) (fun i=>[(6,.val (i64 i)),(5,.val (XZ (cG (l.take i.toNat)))),(0,.val (sT l)),(1,.val [.int .u8 32])]) (fun i=>(l.length - i).toNat) 0 ⟨by omega,by omega⟩ ⟨rfl,rfl,rfl,rfl,trivial⟩ rfl ?_
 rintro i e ⟨h0,hN⟩
 have hsz:=bA_size l
 have hcl:=zN (l.take i.toNat) [[]] (by simp)
 rw [List.length_take] at hcl
 have hcd:cG (l.take i.toNat)=(l.take i.toNat).foldl gB [[]]:=rfl
 rw [←hcd] at hcl
 by_cases hi:i<l.length
 ·have hst:cG (l.take (i+1).toNat)=gB (cG (l.take i.toNat)) (ix l i):=by
   unfold cG
   rw [jO l h0 hi,List.foldl_append]
   rfl
  have hb:=Hz l i (by omega)
  clear hcd
  have hcw:=Mb (l.take i.toNat) [[]] 0 (fun w hw=>by simp at hw;simp [hw])
  rw [Nat.zero_add,List.length_take,show min i.toNat l.length=i.toNat by omega] at hcw
  have hcd:cG (l.take i.toNat)=(l.take i.toNat).foldl gB [[]]:=rfl
  rw [←hcd] at hcw
  clear hcd
  generalize cG (l.take i.toNat)=ws at hst hcl hcw ⊢
  simp only [List.length_cons,List.length_nil] at hcl
  have hw64:IntKind.i64.wrap (((ws.map eW).length:Int) - 1)=(ws.length:Int) - 1:=by rw [List.length_map,aA _ (by omega)]
  have hlst:(ix ws ((ws.length:Int) - 1)).length≤i.toNat:=hcw _ (oX (by omega) (by omega))
  have hcs:cS (ws.map eW) ((ws.length:Int) - 1) 0=bA (ix ws ((ws.length:Int) - 1)):=Uh ws _ (by omega)
  have hu:UInt8.ofNat (VQ (bA l) i).toNat=ix l i:=by rw [hb];simp
  have h32:VQ (bA l) i=32↔ix l i=32:=by
   rw [hb]
   exact SN (b:=32)
  (repeat' first
  | (refine run_ite rfl (fun h=>?_) (fun h=>?_)<;>(try simp (disch:=omega) only [zB,eqDs,aZ,Nat.reduceAdd,aA] at h)<;>(try (exfalso;omega)))
  | refine aG rfl ?_
  | refine aH rfl ?_
  | refine aB rfl ?_ ?_
  | (refine aD rfl ?_;first | refine rb ?_ | refine ri ?_ | refine bI ?_ ?_ | refine bL ?_)
  | refine aC rfl ?_)
  ·refine aT rfl (Exists.intro (i+1) ⟨by omega,⟨by omega,by omega⟩,aO (aA _ (by omega)),bU ?_,rfl,rfl,trivial⟩)
   rw [hst,gB,if_pos (h32.1 h),List.map_append]
   rfl
  ·rw [hw64,hcs,bA_size,YI]
   unfold lim
   omega
  ·rw [hw64]
   exact jZ (sz:=1) (by omega) (by omega) (by omega) (fun _=>rfl) (Nat.le_of_ble_eq_true rfl)
  ·refine aT rfl (Exists.intro (i+1) ⟨by omega,⟨by omega,by omega⟩,aO (aA _ (by omega)),bU ?_,rfl,rfl,trivial⟩)
   rw [hst,gB,if_neg (fun h'=>h (h32.2 h')),hw64,hcs,hu]
   have e1:bA (ix ws ((ws.length:Int) - 1))++⟨#[ix l i]⟩=bA (ix ws ((ws.length:Int) - 1)++[ix l i]):=bA_app _ [ix l i]
   rw [e1,show ws.length - 1=((ws.length:Int) - 1).toNat by omega]
   exact kA (by omega) (by omega) rfl
 ·have ht:l.take i.toNat=l:=List.take_of_length_le (by omega)
  rw [ht]
  (repeat' first
  | (refine run_ite rfl (fun h=>?_) (fun h=>?_)<;>(try simp (disch:=omega) only [zB,eqDs,aZ,Nat.reduceAdd,aA] at h)<;>(try (exfalso;omega)))
  | refine aG rfl ?_
  | refine aH rfl ?_
  | refine aB rfl ?_ ?_
  | (refine aD rfl ?_;first | refine rb ?_ | refine ri ?_ | refine bI ?_ ?_ | refine bL ?_)
  | refine aC rfl ?_)
  rfl

/-! The words of a package's text. -/
theorem zO (n:Int)(h:0≤n∧n≤255):((u8 n).toNat:Int)=n:=by
 have:n.toNat<256:=by omega
 unfold u8
 rw [UInt8.toNat_ofNat']
 omega
theorem Ng (n:Int)(h:33≤n∧n≤255):u8 n≠32:=fun e=>by
 have h1:=zO n (by omega)
 rw [e] at h1
 have:(32:UInt8).toNat=32:=rfl
 omega
theorem qA:∀ (w:List UInt8),(∀ b∈w,b≠32)→∀ (ws:List (List UInt8)) (v:List UInt8),w.foldl gB (ws++[v])=ws++[v++w]
 | [],_,ws,v=>by simp
 | b::r,h,ws,v=>by
  have h1:gB (ws++[v]) b=ws++[v++[b]]:=by
   unfold gB
   rw [if_neg (h b (List.mem_cons_self ..))]
   have e:ix (ws++[v]) (((ws++[v]).length:Int) - 1)=v:=by
    have:(((ws++[v]).length:Int) - 1).toNat=ws.length:=by simp
    simp [ix,this]
   rw [e,show (ws++[v]).length - 1=ws.length by simp]
   simp
  rw [List.foldl_cons,h1,qA r (fun x hx=>h x (List.mem_cons_of_mem _ hx))]
  simp
theorem Eu {α:Type}(f:α→List UInt8):∀ (xs:List α),(∀ x∈xs,∀ b∈f x,b≠32)→∀ ws:List (List UInt8),(xs.flatMap (fun x=>32::f x)).foldl gB ws=ws++xs.map f
 | [],_,ws=>by simp
 | x::r,h,ws=>by
  rw [List.flatMap_cons,List.foldl_append,List.foldl_cons]
  have:gB ws 32=ws++[[]]:=by unfold gB;rw [if_pos rfl]
  rw [this,qA (f x) (h x (List.mem_cons_self ..)),Eu f r (fun y hy=>h y (List.mem_cons_of_mem _ hy))]
  simp
def fW (f:P2):List UInt8:=[u8 (48+f.a),58,u8 (48+f.b)]
def dW (d:P2):List UInt8:=nmT d.a d.b
def cM (p:Pk):List (List UInt8):=nmT p.name p.ver::(p.files.map fW++p.deps.map dW)
theorem SP {n v:Int}(hn:1≤n∧n≤4)(hv:1≤v∧v≤5):∀ b∈nmT n v,b≠32:=by
 intro b hb
 simp only [nmT,List.mem_cons,List.not_mem_nil,or_false] at hb
 rcases hb with rfl | rfl
 ·exact Ng _ (by omega)
 ·exact Ng _ (by omega)
theorem zP {p:Pk}(h:PkOk p):cG (textM p)=cM p:=by
 have hF:=h.2.2.1.1
 have hD:=h.2.2.2.1
 have e:textM p=nmT p.name p.ver++p.files.flatMap (fun f=>32::fW f)++p.deps.flatMap (fun d=>32::dW d):=by
  rw [textM,if_pos h]
  rfl
 unfold cG
 rw [e,List.foldl_append,List.foldl_append]
 have h1:(nmT p.name p.ver).foldl gB [[]]=[nmT p.name p.ver]:=qA _ (SP h.1 h.2.1) [] []
 rw [h1,Eu fW p.files (fun f hf b hb=>by
  obtain ⟨j,j0,j1,rfl⟩:=Ag hf
  obtain ⟨a1,a2,_⟩:=hF j j0 j1
  simp only [fW,List.mem_cons,List.not_mem_nil,or_false] at hb
  rcases hb with rfl | rfl | rfl
  ·exact Ng _ (by omega)
  ·decide
  ·exact Ng _ (by omega)),Eu dW p.deps (fun d hd=>by
  obtain ⟨j,j0,j1,rfl⟩:=Ag hd
  obtain ⟨a1,_,a2,_⟩:=hD j j0 j1
  exact SP a1 a2)]
 simp [cM]
end
section
open Classical
variable {W:Wld}

def Ui (n v:Int)(p:Pk):Prop:=p.name=n∧p.ver=v
theorem Nh (ps:List Pk)(hl:ps.length≤lim)(n v:Int):FunOk PP W sV iW [cJ ps,i64 n,i64 v] [i64 (pY (Ui n v) ps ps.length 0)]:=by
 refine JW (aI ?_)
 unfold lim at hl
 refine aU rfl (fun i:Int=>0≤i∧i≤ps.length∧pY (Ui n v) ps ps.length 0=pY (Ui n v) ps (ps.length - i).toNat i) (fun i=>[(7,.val (i64 i)),(0,.val (cJ ps)),(1,.val (i64 n)),(2,.val (i64 v))]) (fun i=>(ps.length - i).toNat) 0 ⟨by omega,by omega,by simp⟩ ⟨rfl,rfl,rfl,rfl,trivial⟩ rfl ?_
 rintro i e ⟨h0,hN,hP⟩
 have hs:i<ps.length→pY (Ui n v) ps ps.length 0=if Ui n v (ix ps i) then i else pY (Ui n v) ps (ps.length - (i+1)).toNat (i+1):=fun h=>by
  rw [hP,show ((ps.length:Int) - i).toNat=((ps.length:Int) - (i+1)).toNat+1 by omega,pY]
 have hz:¬i<ps.length→pY (Ui n v) ps ps.length 0= -1:=fun h=>by
  rw [hP,show ((ps.length:Int) - i).toNat=0 by omega,pY]
 (repeat' first
  | (refine run_ite rfl (fun h=>?_) (fun h=>?_)<;>(try simp (disch:=omega) only [zB,eqDs,aZ,Nat.reduceAdd,aA] at h)<;>(try (exfalso;omega)))
  | refine aG rfl ?_
  | refine aH rfl ?_
  | (refine aT rfl (Exists.intro (i+1) ⟨by omega,⟨by omega,by omega,?_⟩,aO (aA _ (by omega)),rfl,rfl,rfl,trivial⟩))
  | refine aB rfl ?_ ?_
  | (refine aD rfl ?_;first | refine rb ?_ | refine ri ?_ | refine bI ?_ ?_ | refine bL ?_)
  | refine aC rfl ?_)
 ·rw [hs (by omega),if_pos ⟨by assumption,h⟩]
 ·rw [hs (by omega),if_neg (fun h'=>h h'.2)]
 ·rw [hs (by omega),if_neg (fun h'=>h h'.1)]
 ·rw [hz (by omega)]
theorem SQ {ps:List Pk}(h:Bo ps):∀ (n:Nat) (i j:Int),(j - i).toNat=n→0≤i→i<j→j<ps.length→bN (ix ps i) (ix ps j)
 | 0,i,j,hn,_,hij,_=>by omega
 | n+1,i,j,hn,h0,hij,hj=>by
  have hs:=(h j (by omega) hj).2 (by omega)
  by_cases e:i=j - 1
  ·rw [e];exact hs
  ·have:=SQ h n i (j - 1) (by omega) h0 (by omega) (by omega)
   unfold bN at *
   omega
/-! Nothing that lacks is kept; what lacks and what is kept are all that is told of. -/
theorem Uj {α:Type}[Inhabited α]{R:α→α→Prop}{l:List α}(h:∀ i j:Int,0≤i→i<j→j<l.length→R (ix l i) (ix l j)):l.Pairwise R:=by
 rw [List.pairwise_iff_getElem]
 intro i j hi hj hij
 have:=h i j (by omega) (by omega) (by omega)
 simpa [ix,hi,hj] using this
end
section
open Classical

theorem SS (ws xs:List (List UInt8))(b:UInt8)(h:xs≠[]):gB (ws++xs) b=ws++gB xs b:=by
 have hl:0<xs.length:=List.length_pos_iff.2 h
 unfold gB
 by_cases hb:b=32
 ·rw [if_pos hb,if_pos hb,List.append_assoc]
 ·rw [if_neg hb,if_neg hb]
  have e1:ix (ws++xs) (((ws++xs).length:Int) - 1)=ix xs ((xs.length:Int) - 1):=by
   have a1:(((ws++xs).length:Int) - 1).toNat=ws.length+(xs.length - 1):=by rw [List.length_append];omega
   have a2:((xs.length:Int) - 1).toNat=xs.length - 1:=by omega
   simp only [ix,a1,a2,List.getElem?_append_right (Nat.le_add_right _ _),Nat.add_sub_cancel_left,List.getD_eq_getElem?_getD]
  rw [e1,List.set_append_right _ _ (by rw [List.length_append];omega),show (ws++xs).length - 1 - ws.length=xs.length - 1 by rw [List.length_append];omega]
theorem Uk (xs:List (List UInt8))(b:UInt8)(h:xs≠[]):gB xs b≠[]:=by
 unfold gB
 split
 ·simp
 ·simp [h]
theorem Ni:∀ (r:List UInt8) (ws xs:List (List UInt8)),xs≠[]→r.foldl gB (ws++xs)=ws++r.foldl gB xs
 | [],ws,xs,_=>rfl
 | b::r,ws,xs,h=>by rw [List.foldl_cons,List.foldl_cons,SS ws xs b h,Ni r ws _ (Uk xs b h)]
theorem ST {w:List UInt8}(hw:∀ b∈w,b≠32)(r:List UInt8):cG (w++32::r)=w::cG r:=by
 unfold cG
 rw [List.foldl_append,List.foldl_cons]
 have h1:w.foldl gB [[]]=[w]:=qA w hw [] []
 rw [h1]
 have h2:gB [w] 32=[w]++[[]]:=by unfold gB;rw [if_pos rfl]
 rw [h2,Ni r [w] [[]] (by simp)]
 rfl
theorem Ul {w:List UInt8}(hw:∀ b∈w,b≠32):cG w=[w]:=qA w hw [] []
theorem Ge:∀ (n:Nat) (l:List UInt8),l.length≤n→Lib.splitK [32] 0 (Lib.count l [32]) l=cG l
 | n,l,hn=>by
  rcases Lib.index_spec l [32] with ⟨h1,_⟩ | ⟨i,h1,h2,_,_⟩
  ·have hno:∀ b∈l,b≠32:=fun b hb e=>by
    subst e
    obtain ⟨k,hk⟩:=List.mem_iff_getElem?.1 hb
    exact Lib.indexByte_none ((Lib.index_one l 32).symm.trans h1) k hk
   rw [Lib.count_miss h1,Ul hno]
   rfl
  ·have hi:=(Lib.index_one l 32).symm.trans h1
   obtain ⟨g1,g2⟩:=Lib.indexByte_some hi
   have hlt:i<l.length:=(List.getElem?_eq_some_iff.1 g1).1
   have hd:l=l.take i++32::l.drop (i+1):=by
    have:l[i]=32:=(List.getElem?_eq_some_iff.1 g1).2
    rw [←this,←List.drop_eq_getElem_cons hlt,List.take_append_drop]
   have hw:∀ b∈l.take i,b≠32:=fun b hb e=>by
    subst e
    obtain ⟨k,hk⟩:=List.mem_iff_getElem?.1 hb
    have hk':=(List.getElem?_eq_some_iff.1 hk).1
    rw [List.length_take] at hk'
    rw [List.getElem?_take_of_lt (by omega)] at hk
    exact g2 k (by omega) hk
   have hc:Lib.count l [32]=1+Lib.count (l.drop (i+1)) [32]:=Lib.count_hit (by simp) h1
   rw [hc,Nat.add_comm]
   have hs:Lib.splitK [32] 0 (Lib.count (l.drop (i+1)) [32]+1) l=l.take i::Lib.splitK [32] 0 (Lib.count (l.drop (i+1)) [32]) (l.drop (i+1)):=by
    rw [Lib.splitK,h1,if_neg (by simp),Int.toNat_natCast]
    rfl
   cases n with
   | zero=>omega
   | succ n=>
    rw [hs,Ge n (l.drop (i+1)) (by rw [List.length_drop];omega)]
    conv=>rhs;rw [hd]
    rw [ST hw]
theorem Nj (s:ByteArray):bA s.data.toList=s:=by
 apply ByteArray.ext
 simp [bA]
theorem Mc (l:List UInt8):Lib.splitB ⟨#[32]⟩ 0 (Lib.countB (bA l) ⟨#[32]⟩) (bA l)=(cG l).map bA:=by
 have h:=Lib.splitB_data ⟨#[32]⟩ 0 (Lib.countB (bA l) ⟨#[32]⟩) (bA l)
 have e:Lib.splitK [32] 0 (Lib.count l [32]) l=cG l:=Ge l.length l (Nat.le_refl _)
 have h':(Lib.splitB ⟨#[32]⟩ 0 (Lib.countB (bA l) ⟨#[32]⟩) (bA l)).map (·.data.toList)=cG l:=h.trans e
 rw [←h',List.map_map]
 have:(bA∘fun s:ByteArray=>s.data.toList)=id:=by
  funext s
  exact Nj s
 rw [this]
 simp
/-! A word cut at a colon; a digit read. -/
theorem IE (n:Int)(h:(48≤n∧n≤57)∨(59≤n∧n≤255)):u8 n≠58:=fun e=>by
 have h1:=zO n (by omega)
 rw [e] at h1
 have:(58:UInt8).toNat=58:=rfl
 omega
theorem Xa (x y:UInt8)(hx:x≠58):Lib.index [x,58,y] [58]=1:=by
 have h1:(58==x)=false:=by simp;exact fun e=>hx e.symm
 simp [Lib.index,List.isPrefixOf,h1]
theorem WY (x y:UInt8)(hx:x≠58)(hy:y≠58):Lib.index [x,y] [58]= -1:=by
 have h1:(58==x)=false:=by simp;exact fun e=>hx e.symm
 have h2:(58==y)=false:=by simp;exact fun e=>hy e.symm
 simp [Lib.index,List.isPrefixOf,h1,h2]
theorem WZ (f:P2)(ha:0≤f.a∧f.a≤5):Lib.cut (fW f) [58]=([u8 (48+f.a)],[u8 (48+f.b)],true):=by
 have h:=Xa (u8 (48+f.a)) (u8 (48+f.b)) (IE _ (.inl (by omega)))
 unfold Lib.cut fW
 rw [h,if_pos (by decide)]
 rfl
theorem Um {n v:Int}(hn:1≤n∧n≤4)(hv:1≤v∧v≤5):Lib.cut (nmT n v) [58]=(nmT n v,[],false):=by
 have h:=WY (u8 (97+n - 1)) (u8 (48+v)) (IE _ (.inr (by omega))) (IE _ (.inl (by omega)))
 unfold Lib.cut nmT
 rw [h,if_neg (by decide)]
end
section
open Classical

def nu (w:List UInt8)(i d:Int):Int:=((ix w i).toNat:Int) - d
def uS (p:Pk)(i:Int)(w:List UInt8):Pk:=
 if i=0∧w.length=2 then ⟨nu w 0 96,nu w 1 48,p.files,p.deps⟩
 else if 0<i∧w.length=3 then ⟨p.name,p.ver,p.files++[⟨nu w 0 48,nu w 2 48⟩],p.deps⟩
 else if 0<i∧w.length=2 then ⟨p.name,p.ver,p.files,p.deps++[⟨nu w 0 96,nu w 1 48⟩]⟩
 else p
def VT:Pk:=⟨0,0,[],[]⟩
def CW (ws:List (List UInt8)):Nat→Pk
 | 0=>VT
 | n+1=>uS (CW ws n) n (ix ws n)
theorem SU (ws:List (List UInt8)){i:Int}(h:0≤i):CW ws (i+1).toNat=uS (CW ws i.toNat) i (ix ws i):=by
 obtain ⟨k,rfl⟩:∃ k:Nat,i=k:=⟨i.toNat,by omega⟩
 rfl
theorem Nk (ws:List (List UInt8)):∀ n,(CW ws n).files.length≤n∧(CW ws n).deps.length≤n
 | 0=>⟨Nat.le_refl _,Nat.le_refl _⟩
 | n+1=>by
  have h:=Nk ws n
  show (uS (CW ws n) n (ix ws n)).files.length≤n+1∧(uS (CW ws n) n (ix ws n)).deps.length≤n+1
  unfold uS
  split
  ·exact ⟨by have:=h.1;show (CW ws n).files.length≤n+1;omega,by have:=h.2;show (CW ws n).deps.length≤n+1;omega⟩
  ·split
   ·simp;omega
   ·split
    ·simp;omega
    ·omega
def SV (l:List UInt8):Int:=
 match Lib.atoiAll l with
 | .ok v=>v
 | .«syntax»=>0
 | .range=>Lib.atoiSat l
def Kd (w:List UInt8):P2:=if w=[] then ⟨0,0⟩ else ⟨nu w 0 96,SV (w.drop 1)⟩
def Ew (p:Pk)(w:List UInt8):Pk:=
 if (Lib.cut w [58]).2.2=true then ⟨p.name,p.ver,p.files++[⟨SV (Lib.cut w [58]).1,SV (Lib.cut w [58]).2.1⟩],p.deps⟩
 else ⟨p.name,p.ver,p.files,p.deps++[Kd w]⟩
def Gf (ws:List (List UInt8)):Nat→Pk
 | 0=>⟨(Kd (ix ws 0)).a,(Kd (ix ws 0)).b,[],[]⟩
 | n+1=>Ew (Gf ws n) (ix (ws.drop 1) n)
theorem SW (ws:List (List UInt8)){i:Int}(h:0≤i):Gf ws (i+1).toNat=Ew (Gf ws i.toNat) (ix (ws.drop 1) i):=by
 obtain ⟨k,rfl⟩:∃ k:Nat,i=k:=⟨i.toNat,by omega⟩
 rfl
theorem Nl (ws:List (List UInt8)):∀ n,(Gf ws n).files.length≤n∧(Gf ws n).deps.length≤n
 | 0=>⟨Nat.le_refl _,Nat.le_refl _⟩
 | n+1=>by
  have h:=Nl ws n
  show (Ew (Gf ws n) (ix (ws.drop 1) n)).files.length≤n+1∧(Ew (Gf ws n) (ix (ws.drop 1) n)).deps.length≤n+1
  unfold Ew
  split
  ·simp;omega
  ·simp;omega
noncomputable def zQ (l:List UInt8):Option Pk:=if h:∃ p,PkOk p∧textM p=l then some h.choose else none
theorem Un {n:Int}(h:0≤n∧n≤9):(((u8 (48+n)).toNat:Int)) - 48=n:=by rw [zO _ (by omega)];omega
theorem Wa {n:Int}(h:1≤n∧n≤4):(((u8 (97+n - 1)).toNat:Int)) - 96=n:=by rw [zO _ (by omega)];omega
theorem Wb {d:Int}(h:0≤d∧d≤9):SV [u8 (48+d)]=d:=by
 have:d=0∨d=1∨d=2∨d=3∨d=4∨d=5∨d=6∨d=7∨d=8∨d=9:=by omega
 rcases this with rfl | rfl | rfl | rfl | rfl | rfl | rfl | rfl | rfl | rfl<;>decide
theorem Am {p:Pk}(h:PkOk p):CW (cM p) (cM p).length=p:=by
 obtain ⟨hn,hv,⟨hF,hf2⟩,hD,hd2⟩:=h
 obtain ⟨name,ver,files,deps⟩:=p
 dsimp only at hn hv hF hf2 hD hd2
 have a1:=Wa hn
 have a2:=Un (n:=ver) (by omega)
 have fk:∀ j:Int,0≤j→j<files.length→nu (fW (ix files j)) 0 48=(ix files j).a∧nu (fW (ix files j)) 2 48=(ix files j).b:=fun j j0 j1=>by
  obtain ⟨h1,h2,_⟩:=hF j j0 j1
  exact ⟨Un (by omega),Un (by omega)⟩
 have dk:∀ j:Int,0≤j→j<deps.length→nu (dW (ix deps j)) 0 96=(ix deps j).a∧nu (dW (ix deps j)) 1 48=(ix deps j).b:=fun j j0 j1=>by
  obtain ⟨h1,_,h2,_⟩:=hD j j0 j1
  exact ⟨Wa (by omega),Un (by omega)⟩
 have e0:CW (cM ⟨name,ver,files,deps⟩) 1=⟨name,ver,[],[]⟩:=by
  show uS VT 0 (nmT name ver)=_
  unfold uS
  rw [if_pos ⟨rfl,rfl⟩]
  show (⟨((u8 (97+name - 1)).toNat:Int) - 96,((u8 (48+ver)).toNat:Int) - 48,[],[]⟩:Pk)=_
  rw [a1,a2]
 have e1:∀ k:Nat,k≤files.length→CW (cM ⟨name,ver,files,deps⟩) (1+k)=⟨name,ver,files.take k,[]⟩:=by
  intro k
  induction k with
  | zero=>intro _;exact e0
  | succ k ih=>
   intro hk
   show uS (CW (cM ⟨name,ver,files,deps⟩) (1+k)) ((1+k:Nat):Int) (ix (cM ⟨name,ver,files,deps⟩) ((1+k:Nat):Int))=_
   rw [ih (by omega)]
   have hw:ix (cM ⟨name,ver,files,deps⟩) ((1+k:Nat):Int)=fW (ix files (k:Int)):=by
    have e1:(((1+k:Nat)):Int).toNat=k+1:=by omega
    simp only [ix,e1]
    simp [cM,List.getElem?_append,show k<files.length by omega]
   obtain ⟨q1,q2⟩:=fk k (by omega) (by omega)
   rw [hw]
   unfold uS
   rw [if_neg (fun hh=>by have:=hh.1;omega),if_pos ⟨by omega,rfl⟩,q1,q2]
   show (⟨name,ver,files.take k++[ix files (k:Int)],[]⟩:Pk)=_
   have ht:=jO files (i:=(k:Int)) (by omega) (by omega)
   rw [show ((k:Int)+1).toNat=k+1 by omega,show ((k:Int)).toNat=k by omega] at ht
   rw [ht]
 have e2:∀ k:Nat,k≤deps.length→CW (cM ⟨name,ver,files,deps⟩) (1+files.length+k)=⟨name,ver,files,deps.take k⟩:=by
  intro k
  induction k with
  | zero=>intro _;exact (e1 files.length (Nat.le_refl _)).trans (by rw [List.take_length];rfl)
  | succ k ih=>
   intro hk
   show uS (CW (cM ⟨name,ver,files,deps⟩) (1+files.length+k)) ((1+files.length+k:Nat):Int) (ix (cM ⟨name,ver,files,deps⟩) ((1+files.length+k:Nat):Int))=_
   rw [ih (by omega)]
   have hw:ix (cM ⟨name,ver,files,deps⟩) ((1+files.length+k:Nat):Int)=dW (ix deps (k:Int)):=by
    have e1:(((1+files.length+k:Nat)):Int).toNat=(files.length+k)+1:=by omega
    simp only [ix,e1]
    simp [cM,List.getElem?_append,show k<deps.length by omega]
   obtain ⟨q1,q2⟩:=dk k (by omega) (by omega)
   rw [hw]
   unfold uS
   rw [if_neg (fun hh=>by have:=hh.1;omega),if_neg (fun hh=>by have:=hh.2;cases this),if_pos ⟨by omega,rfl⟩,q1,q2]
   show (⟨name,ver,files,deps.take k++[ix deps (k:Int)]⟩:Pk)=_
   have ht:=jO deps (i:=(k:Int)) (by omega) (by omega)
   rw [show ((k:Int)+1).toNat=k+1 by omega,show ((k:Int)).toNat=k by omega] at ht
   rw [ht]
 have hl:(cM ⟨name,ver,files,deps⟩).length=1+files.length+deps.length:=by simp [cM];omega
 rw [hl,e2 deps.length (Nat.le_refl _),List.take_length]
theorem SX {n v:Int}(hn:1≤n∧n≤4)(hv:1≤v∧v≤5):Kd (nmT n v)=⟨n,v⟩:=by
 unfold Kd
 rw [if_neg (by simp [nmT])]
 have h2:SV ((nmT n v).drop 1)=v:=Wb (d:=v) (by omega)
 rw [h2]
 have h1:nu (nmT n v) 0 96=n:=Wa hn
 rw [h1]
theorem Pg {p:Pk}(h:PkOk p):Gf (cM p) ((cM p).length - 1)=p:=by
 obtain ⟨hn,hv,⟨hF,hf2⟩,hD,hd2⟩:=h
 obtain ⟨name,ver,files,deps⟩:=p
 dsimp only at hn hv hF hf2 hD hd2
 have e0:Gf (cM ⟨name,ver,files,deps⟩) 0=⟨name,ver,[],[]⟩:=by
  show (⟨(Kd (nmT name ver)).a,(Kd (nmT name ver)).b,[],[]⟩:Pk)=_
  rw [SX hn hv]
 have e1:∀ k:Nat,k≤files.length→Gf (cM ⟨name,ver,files,deps⟩) k=⟨name,ver,files.take k,[]⟩:=by
  intro k
  induction k with
  | zero=>intro _;exact e0
  | succ k ih=>
   intro hk
   show Ew (Gf (cM ⟨name,ver,files,deps⟩) k) (ix (files.map fW++deps.map dW) (k:Int))=_
   rw [ih (by omega)]
   have hw:ix (files.map fW++deps.map dW) (k:Int)=fW (ix files (k:Int)):=by
    simp [ix,List.getElem?_append,show k<files.length by omega]
   obtain ⟨h1,h2,_⟩:=hF k (by omega) (by omega)
   rw [hw]
   unfold Ew
   rw [WZ _ (by omega),if_pos rfl]
   show (⟨name,ver,files.take k++[⟨SV [u8 (48+(ix files (k:Int)).a)],SV [u8 (48+(ix files (k:Int)).b)]⟩],[]⟩:Pk)=_
   rw [Wb (by omega),Wb (by omega)]
   have ht:=jO files (i:=(k:Int)) (by omega) (by omega)
   rw [show ((k:Int)+1).toNat=k+1 by omega,show ((k:Int)).toNat=k by omega] at ht
   rw [ht]
 have e2:∀ k:Nat,k≤deps.length→Gf (cM ⟨name,ver,files,deps⟩) (files.length+k)=⟨name,ver,files,deps.take k⟩:=by
  intro k
  induction k with
  | zero=>intro _;exact (e1 files.length (Nat.le_refl _)).trans (by rw [List.take_length];rfl)
  | succ k ih=>
   intro hk
   show Ew (Gf (cM ⟨name,ver,files,deps⟩) (files.length+k)) (ix (files.map fW++deps.map dW) ((files.length+k:Nat):Int))=_
   rw [ih (by omega)]
   have hw:ix (files.map fW++deps.map dW) ((files.length+k:Nat):Int)=dW (ix deps (k:Int)):=by
    have e1:(((files.length+k:Nat)):Int).toNat=(files.length+k):=by omega
    simp only [ix,e1]
    simp [List.getElem?_append,show k<deps.length by omega]
   obtain ⟨h1,_,h2,_⟩:=hD k (by omega) (by omega)
   rw [hw]
   unfold Ew dW
   rw [Um h1 h2,if_neg (by simp),SX h1 h2]
   show (⟨name,ver,files,deps.take k++[ix deps (k:Int)]⟩:Pk)=_
   have ht:=jO deps (i:=(k:Int)) (by omega) (by omega)
   rw [show ((k:Int)+1).toNat=k+1 by omega,show ((k:Int)).toNat=k by omega] at ht
   rw [ht]
 have hl:(cM ⟨name,ver,files,deps⟩).length - 1=files.length+deps.length:=by simp [cM]
 rw [hl,e2 deps.length (Nat.le_refl _),List.take_length]
theorem Ph {p q:Pk}(hp:PkOk p)(hq:PkOk q)(h:textM p=textM q):p=q:=by
 have h1:=Am hp
 have h2:=Am hq
 rw [←zP hp] at h1
 rw [←zP hq,←h] at h2
 exact h1.symm.trans h2
theorem Ex {p:Pk}(hp:PkOk p):zQ (textM p)=some p:=by
 have h:∃ q,PkOk q∧textM q=textM p:=⟨p,hp,rfl⟩
 unfold zQ
 rw [dif_pos h]
 exact congrArg some (Ph h.choose_spec.1 hp h.choose_spec.2)
theorem Ey {l:List UInt8}{p:Pk}(h:zQ l=some p):PkOk p∧textM p=l:=by
 unfold zQ at h
 by_cases h':∃ p,PkOk p∧textM p=l
 ·rw [dif_pos h'] at h
  cases h
  exact h'.choose_spec
 ·rw [dif_neg h'] at h
  cases h
theorem Cj {l:List UInt8}(h:∀ p,PkOk p→textM p≠l):zQ l=none:=by
 unfold zQ
 rw [dif_neg]
 rintro ⟨p,h1,h2⟩
 exact h p h1 h2
theorem Xb (l:List UInt8):zQ l=if PkOk (CW (cG l) (cG l).length)∧textM (CW (cG l) (cG l).length)=l then some (CW (cG l) (cG l).length) else none:=by
 by_cases h:PkOk (CW (cG l) (cG l).length)∧textM (CW (cG l) (cG l).length)=l
 ·rw [if_pos h]
  have:=Ex h.1
  rw [h.2] at this
  exact this
 ·rw [if_neg h]
  refine Cj fun p h1 h2=>h ?_
  rw [←h2,zP h1,Am h1]
  exact ⟨h1,rfl⟩
theorem Xc (l:List UInt8):zQ l=if PkOk (Gf (cG l) ((cG l).length - 1))∧textM (Gf (cG l) ((cG l).length - 1))=l then some (Gf (cG l) ((cG l).length - 1)) else none:=by
 by_cases h:PkOk (Gf (cG l) ((cG l).length - 1))∧textM (Gf (cG l) ((cG l).length - 1))=l
 ·rw [if_pos h]
  have:=Ex h.1
  rw [h.2] at this
  exact this
 ·rw [if_neg h]
  refine Cj fun p h1 h2=>h ?_
  rw [←h2,zP h1,Pg h1]
  exact ⟨h1,rfl⟩
theorem Pi {p:Pk}(h:¬PkOk p):textM p=[]:=by unfold textM;rw [if_neg h]
theorem SY {p:Pk}(h:PkOk p):textM p≠[]:=by unfold textM;rw [if_pos h];simp [nmT]
theorem Uo:zQ []=none:=Cj fun _ h=>SY h
theorem KU {l:List UInt8}(h:30<l.length):zQ l=none:=Cj fun p _ e=>by have:=uL p;rw [e] at this;omega
noncomputable def Uq (o:Option Pk):Pk:=o.getD VT
end
section
open Classical
variable {W:Wld}

theorem SZ (bs:ByteArray):∀ (n i:Nat) (r:List UInt8),bs.size - i=n→ByteArray.toList.loop bs i r=r.reverse++bs.data.toList.drop i:=by
 intro n
 induction n with
 | zero=>
  intro i r h
  unfold ByteArray.toList.loop
  rw [if_neg (by omega),List.drop_eq_nil_of_le (by show bs.data.size≤i;have:bs.data.size=bs.size:=rfl;omega),List.append_nil]
 | succ n ih=>
  intro i r h
  have hs:bs.data.size=bs.size:=rfl
  unfold ByteArray.toList.loop
  rw [if_pos (by omega),ih (i+1) _ (by omega),List.reverse_cons,List.append_assoc,List.singleton_append]
  have hd:bs.data.toList.drop i=bs.data.toList[i]'(by show i<bs.data.size;omega)::bs.data.toList.drop (i+1):=List.drop_eq_getElem_cons _
  rw [hd]
  have hg:bs.get! i=bs.data.toList[i]'(by show i<bs.data.size;omega):=by
   show bs.data[i]! =_
   rw [getElem!_pos bs.data i (by omega)]
   simp
  rw [hg]
theorem Gg (bs:ByteArray):bs.toList=bs.data.toList:=by
 unfold ByteArray.toList
 rw [SZ bs bs.size 0 [] (by omega)]
 simp
theorem xE {a b:List UInt8}:(bA a).toList=(bA b).toList↔a=b:=by
 rw [Gg,Gg]
 simp [bA]
theorem Xd {n v n' v':Int}{f f' d d':List P2}(h1:n=n')(h2:v=v')(h3:f=f')(h4:d=d'):([.int .i64 n,.int .i64 v,.sl (f.map eP2),.sl (d.map eP2)]:List D)=ePk ⟨n',v',f',d'⟩:=by subst h1;subst h2;subst h3;subst h4;rfl
theorem Sa {n v a b a' b':Int}{f d:List P2}(h1:a=a')(h2:b=b'):([.int .i64 n,.int .i64 v,.sl (f.map eP2++[[.int .i64 a,.int .i64 b]]),.sl (d.map eP2)]:List D)=ePk ⟨n,v,f++[⟨a',b'⟩],d⟩:=by
 subst h1;subst h2
 show _=([.int .i64 n,.int .i64 v,.sl ((f++[(⟨a,b⟩:P2)]).map eP2),.sl (d.map eP2)]:List D)
 rw [List.map_append]
 rfl
theorem Sb {n v a b a' b':Int}{f d:List P2}(h1:a=a')(h2:b=b'):([.int .i64 n,.int .i64 v,.sl (f.map eP2),.sl (d.map eP2++[[.int .i64 a,.int .i64 b]])]:List D)=ePk ⟨n,v,f,d++[⟨a',b'⟩]⟩:=by
 subst h1;subst h2
 show _=([.int .i64 n,.int .i64 v,.sl (f.map eP2),.sl ((d++[(⟨a,b⟩:P2)]).map eP2)]:List D)
 rw [List.map_append]
 rfl
theorem Ur (w:List UInt8)(i d:Int)(h:0≤d∧d≤100)(b:Int)(hb:b=((ix w i).toNat:Int)):IntKind.i64.wrap (IntKind.i64.wrap b - d)=nu w i d:=by
 have:=(ix w i).toNat_lt
 rw [hb,aA ((ix w i).toNat:Int) (by omega),aA _ (by omega)]
 rfl
theorem Sc (w:List UInt8)(i:Int)(b:Int)(hb:b=((ix w i).toNat:Int)):IntKind.i64.wrap (IntKind.i64.wrap (IntKind.i64.wrap b - 97)+1)=nu w i 96:=by
 have:=(ix w i).toNat_lt
 rw [hb,aA ((ix w i).toNat:Int) (by omega),aA (((ix w i).toNat:Int) - 97) (by omega),aA _ (by omega)]
 unfold nu
 omega
theorem Ez (l:List UInt8)(hl:l.length≤2000000):FunOk PP W lQ eI [sT l] [ePk (Uq (zQ l)),bo (zQ l).isSome]:=by
 refine JG (aI ?_)
 have hsz:=bA_size l
 by_cases h30:30<l.length
 ·rw [KU h30]
  (repeat' first
  | (refine run_ite rfl (fun h=>?_) (fun h=>?_)<;>(try simp (disch:=omega) only [zB,eqDs,aZ,Nat.reduceAdd,aA] at h)<;>(try (exfalso;omega)))
  | refine aG rfl ?_
  | refine aH rfl ?_
  | refine aB rfl ?_ ?_
  | (refine aD rfl ?_;first | refine rb ?_ | refine ri ?_ | refine bI ?_ ?_ | refine bL ?_)
  | refine aC rfl ?_)
  all_goals rfl
 have hc:=SO (W:=W) l hl
 have hws:=zN l [[]] (by simp)
 simp only [List.length_cons,List.length_nil] at hws
 have hcd:l.foldl gB [[]]=cG l:=rfl
 rw [hcd] at hws
 have hT:=Xb l
 generalize cG l=ws at hc hws hT
 (repeat' first
  | (refine run_ite rfl (fun h=>?_) (fun h=>?_)<;>(try simp (disch:=omega) only [zB,eqDs,aZ,Nat.reduceAdd,aA] at h)<;>(try (exfalso;omega)))
  | refine aG rfl ?_
  | refine aH rfl ?_
  | refine aE rfl (hc) rfl ?_
  | refine aB rfl ?_ ?_
  | (refine aD rfl ?_;first | refine rb ?_ | refine ri ?_ | refine bI ?_ ?_ | refine bL ?_)
  | refine aC rfl ?_)
 refine aU rfl (fun i:Int=>0≤i∧i≤ws.length) (fun i=>[(6,.val (i64 i)),(4,.val (XZ ws)),(5,.val (ePk (CW ws i.toNat))),(0,.val (sT l)),(2,.val [.int .i64 0,.int .i64 0,.sl [],.sl []])]) (fun i=>(ws.length - i).toNat) 0 ⟨by omega,by omega⟩ ⟨rfl,rfl,rfl,rfl,rfl,trivial⟩ rfl ?_
 rintro i e ⟨h0,hN⟩
 have hrl:=Nk ws i.toNat
 by_cases hi:i<ws.length
 ·have hcs:cS (ws.map eW) i 0=bA (ix ws i):=Uh _ i (by omega)
  have hbt:∀ j:Int,j.toNat<(ix ws i).length→VQ (cS (ws.map eW) i 0) j=((ix (ix ws i) j).toNat:Int):=fun j hj=>by rw [hcs];exact Hz _ j hj
  have hsz2:(cS (ws.map eW) i 0).size=(ix ws i).length:=by rw [hcs,bA_size]
  have hst:=SU ws h0
  generalize CW ws i.toNat=p at hrl hst
  generalize ix ws i=w at hbt hsz2 hst
  (repeat' first
  | (refine run_ite rfl (fun h=>?_) (fun h=>?_)<;>(try simp (disch:=omega) only [zB,eqDs,aZ,Nat.reduceAdd,aA] at h)<;>(try (exfalso;omega)))
  | refine aG rfl ?_
  | refine aH rfl ?_
  | (refine aT rfl (Exists.intro (i+1) ⟨by omega,⟨by omega,by omega⟩,aO (aA _ (by omega)),rfl,?_,rfl,rfl,trivial⟩))
  | refine aB rfl ?_ ?_
  | (refine aD rfl ?_;first | refine rb ?_ | refine ri ?_ | refine bI ?_ ?_ | refine bL ?_)
  | refine aC rfl ?_)
  ·rw [hst,uS,if_pos ⟨by assumption,by omega⟩]
   exact Xd (Sc w 0 _ (hbt 0 (by show 0<_;omega))) (Ur w 1 48 (by omega) _ (hbt 1 (by show 1<_;omega))) rfl rfl
  ·rw [hst,uS,if_neg (by omega),if_neg (by omega),if_neg (by omega)]
   rfl
  ·rw [hst,uS,if_neg (by omega),if_pos ⟨by assumption,by omega⟩]
   exact Sa (Ur w 0 48 (by omega) _ (hbt 0 (by show 0<_;omega))) (Ur w 2 48 (by omega) _ (hbt 2 (by show 2<_;omega)))
  ·rw [hst,uS,if_neg (by omega),if_neg (by omega),if_pos ⟨by assumption,by omega⟩]
   exact Sb (Sc w 0 _ (hbt 0 (by show 0<_;omega))) (Ur w 1 48 (by omega) _ (hbt 1 (by show 1<_;omega)))
  ·rw [hst,uS,if_neg (by omega),if_neg (by omega),if_neg (by omega)]
   rfl
 ·have hi':i=ws.length:=by omega
  subst hi'
  have hr:CW ws (ws.length:Int).toNat=CW ws ws.length:=rfl
  rw [hr] at hrl ⊢
  generalize CW ws ws.length=p at hrl hT
  have hs:SmP p:=⟨by unfold lim;omega,by unfold lim;omega⟩
  have h1:¬(bA (textM p)).toList=(bA l).toList→zQ l=none:=fun h=>by rw [hT,if_neg (fun h'=>h (xE.2 h'.2))]
  have h2:(bA l).toList=(⟨#[]⟩:ByteArray).toList→zQ l=none:=fun h=>by
   have:l=[]:=(xE (a:=l) (b:=[])).1 h
   rw [this]
   exact Uo
  have h3:(bA (textM p)).toList=(bA l).toList→¬(bA l).toList=(⟨#[]⟩:ByteArray).toList→zQ l=some p:=fun h h'=>by
   have e:=xE.1 h
   by_cases hp:PkOk p
   ·rw [hT,if_pos ⟨hp,e⟩]
   ·rw [Pi hp] at e
    exact absurd (xE.2 e.symm) h'
  (repeat' first
  | (refine run_ite rfl (fun h=>?_) (fun h=>?_)<;>(try simp (disch:=omega) only [zB,eqDs,aZ,Nat.reduceAdd,aA] at h)<;>(try (exfalso;omega)))
  | refine aG rfl ?_
  | refine aH rfl ?_
  | refine aE rfl (KR p hs) rfl ?_
  | refine aB rfl ?_ ?_
  | (refine aD rfl ?_;first | refine rb ?_ | refine ri ?_ | refine bI ?_ ?_ | refine bL ?_)
  | refine aC rfl ?_)
  all_goals first
   | (rw [h1 h];rfl)
   | (rw [h2 h];rfl)
   | (rw [h3 (by assumption) h];rfl)
end
end V
end Go.Proofs.YtmgpamcpdblckaaGreatDoor

/-
Plain proofs: what slices.Insert does with one element that is put into a list.
-/
namespace Go.Proofs.YtmgpamcpdblckaaGreatDoor
open Go.RowKit
set_option maxRecDepth 100000
set_option maxHeartbeats 4000000

def fP (cur:Array Value)(o:Nat)(cs:List Value):Array Value:=(cur.toList.take o++cs++cur.toList.drop (o+cs.length)).toArray
theorem tX {cur:Array Value}{o:Nat}{cs:List Value}(h:o+cs.length≤cur.size)(k:Nat):(fP cur o cs)[k]? =if k<o then cur[k]? else if k<o+cs.length then cs[k - o]? else cur[k]? :=by
 unfold fP
 rw [List.getElem?_toArray,V.splice_get (by simpa using h)]
 simp
theorem dO {cur:Array Value}{o:Nat}{cs:List Value}(h:o+cs.length≤cur.size):(fP cur o cs).size=cur.size:=by
 have:=V.splice_len (c:=cur.toList) (xs:=cs) (off:=o) (by simpa using h)
 simpa [fP] using this

theorem lH {P:Program}(w:World)(dT sT ty elem:TypeId){i:TypeInfo}(g o dLen dCap:Nat)(a:Addr)(sLen sCap:Nat)(cur:Array Value)(t:TypeId)(fr:Nat×Nat)(cs:List Value)
  (hu:P.underlying dT=some (.slice elem))(hi:P.info? elem=some i)
  (hg:w.heap[g]? =some (.cells cur t fr))(hn:cs.length=Nat.min sLen dLen*i.size)
  (hsrc:∀ (j:Nat) (v:Value),cs[j]? =some v→w.cell? (a.add j)=some v)(hfit:o+cs.length≤cur.size)(hfr:∀ k,o≤k→k<o+cs.length→(fr.1≤k&&k<fr.2)=false)(h1:∀ v∈cs,v.oneCell'=true):
  (Builtin.copy_ #[dT,sT] ty #[.slice (some ⟨g,o,none⟩) dLen dCap,.slice (some a) sLen sCap]).run P w=
   .ok (goInt (Nat.min sLen dLen)) (w.setRow g (fP cur o cs)):=by
 have hl:=run_loadCells_list (P:=P) w a cs hsrc
 have hst:=V.run_storeCells_fr P g o t fr cs 0 cur w hg (fun k h2 h3=>hfr k (by omega) (by omega)) (by simpa using hfit) h1
 simp only [Nat.add_zero] at hst
 simp [Builtin.copy_,run_underlying hu,Builtin.lenOf,Builtin.firstCells,sizeOf,typeInfo,hi,←hn,hl,hst,fP]

theorem gZ:Tryz.prog.underlying 31=some (.slice 41):=by kernel_rfl
theorem zR:∃ i z,Tryz.prog.info? 41=some i∧i.zero=some z∧i.size=4∧i.bytes=64∧z.cells.size=4:=by
 have h:(Tryz.prog.info? 41).bind (fun i=>i.zero.map fun z=>(i.size,i.bytes,z.cells.size))=some (4,64,4):=by kernel_rfl
 cases hi:Tryz.prog.info? 41 with
 | none=>rw [hi] at h;cases h
 | some i=>
  rw [hi] at h
  simp only [Option.bind_some] at h
  obtain ⟨z,hz,h⟩:=Option.map_eq_some_iff.1 h
  simp only [Prod.mk.injEq] at h
  exact ⟨i,z,rfl,hz,h.1,h.2.1,h.2.2⟩
theorem Us (w:World):(Go.sizeOf 41).run Tryz.prog w= .ok 4 w:=by
 obtain ⟨i,z,h1,_,h2,_⟩:=zR
 simp [sizeOf,typeInfo,h1,h2]

theorem Pj (w:World)(g n c i gv vc:Nat)(cur curv:Array Value)(T Tv:TypeId)(fr frv:Nat×Nat)(mid vs:List Value)(hi:i<n)(hroom:n+1≤c)(hc63:c≤9223372036854775807)(hne:gv≠g)
  (hg:w.heap[g]? =some (.cells cur T fr))(hgv:w.heap[gv]? =some (.cells curv Tv frv))(hcs:c*4≤cur.size)(hfr:∀ o,(fr.1≤o&&o<fr.2)=false)(hfv:∀ o,(frv.1≤o&&o<frv.2)=false)
  (hvs:vs.length=4)(hvc:∀ (j:Nat) (v:Value),vs[j]? =some v→curv[j]? =some v)(h1v:∀ v∈vs,v.oneCell'=true)
  (hml:mid.length=(n - i)*4)(hmc:∀ (j:Nat) (v:Value),mid[j]? =some v→cur[i*4+j]? =some v)(h1m:∀ v∈mid,v.oneCell'=true):
  Calls Tryz.prog 107 #[.slice (some ⟨g,0,none⟩) n c,.int .i64 i,.slice (some ⟨gv,0,none⟩) 1 vc] w fun e w'=>
   e= .returned (.slice (some ⟨g,0,none⟩) (n+1) c)∧w'=w.drew.setRow g (fP (fP cur ((i+1)*4) mid) (i*4) vs):=by
 obtain ⟨ti,tz,ti1,ti2,ti3,ti4,ti5⟩:=zR
 have hz2:¬((i:Int)=(n:Int)):=by omega
 have hov:∀ lb cb,(callFunc 138 #[.slice (some ⟨gv,0,none⟩) 1 vc,.slice (some ⟨g,(i+1)*4,none⟩) lb cb]).run Tryz.prog w= .ok (.value (.bool false)) w:=fun lb cb=>by
  rw [run_callFunc_extern Tryz.func138 (by kernel_rfl) (by kernel_rfl) (by kernel_rfl) (e:=Extern.SlicesOverlaps.overlaps #[31,31] #[4]) (by kernel_rfl),
   Lib.run_overlaps_apart w 31 4 41 gZ 4 Us ⟨gv,0,none⟩ ⟨g,(i+1)*4,none⟩ 1 vc lb cb hne Tv T curv.size cur.size (by simp [World.shape?,hgv]) (by simp [World.shape?,hg]) (by omega) (by simp only [World.frozen?,hgv];exact hfv _) (by simp only [World.frozen?,hgv];exact hfv _)]
  rfl
 have hmn:(i+1)*4+mid.length≤cur.size:=by omega
 have hg0:w.drew.heap[g]? =some (.cells cur T fr):=hg
 have hcp1:∀ ty dc sc,(Builtin.copy_ #[31,31] ty #[.slice (some ⟨g,(i+1)*4,none⟩) (n+1 - (i+1)) dc,.slice (some ⟨g,i*4,none⟩) (n+1 - i) sc]).run Tryz.prog w.drew= .ok (goInt ((n - i:Nat):Int)) (w.drew.setRow g (fP cur ((i+1)*4) mid)):=fun ty dc sc=>by
  have hm:Nat.min (n+1 - i) (n+1 - (i+1))=n - i:=by simp only [Nat.min_def];split<;>omega
  have:=lH (P:=Tryz.prog) w.drew 31 31 ty 41 g ((i+1)*4) (n+1 - (i+1)) dc ⟨g,i*4,none⟩ (n+1 - i) sc cur T fr mid gZ ti1 hg0 (by rw [hm,ti3];exact hml)
   (fun j v hj=>by rw [Addr.add_lit];simp only [World.cell?,hg0];exact hmc j v hj) hmn (fun k _ _=>hfr k) h1m
  rw [hm] at this
  exact this
 have hg1:=setRow_heap w.drew g cur (fP cur ((i+1)*4) mid) T fr hg0
 have hgv1:(w.drew.setRow g (fP cur ((i+1)*4) mid)).heap[gv]? =some (.cells curv Tv frv):=(setRow_other w.drew g gv _ hne).trans hgv
 have hcp2:∀ ty dc sc,(Builtin.copy_ #[31,31] ty #[.slice (some ⟨g,i*4,none⟩) (n+1 - i) dc,.slice (some ⟨gv,0,none⟩) 1 sc]).run Tryz.prog (w.drew.setRow g (fP cur ((i+1)*4) mid))= .ok (goInt 1) (w.drew.setRow g (fP (fP cur ((i+1)*4) mid) (i*4) vs)):=fun ty dc sc=>by
  have hm:Nat.min 1 (n+1 - i)=1:=by simp only [Nat.min_def];split<;>omega
  have:=lH (P:=Tryz.prog) _ 31 31 ty 41 g (i*4) (n+1 - i) dc ⟨gv,0,none⟩ 1 sc _ T fr vs gZ ti1 hg1 (by rw [hm,ti3];exact hvs)
   (fun j v hj=>by rw [Addr.add_lit];simp only [World.cell?,hgv1,Nat.zero_add];exact hvc j v hj) (by rw [dO hmn];omega) (fun k _ _=>hfr k) h1v
  rw [hm,setRow_setRow] at this
  exact this
 clear ti1 ti2 ti3 ti4 ti5
 have hin:i≤n:=by omega
 have hw1:IntKind.i64.wrap ((i:Int)+1)=(i:Int)+1:=by rw [IntKind.wrap_i64];omega
 have hb1:(0:Int)≤(i:Int)+1:=by omega
 have htn:((i:Int)+1).toNat=i+1:=by omega
 have hb2:¬(c=i+1):=by omega
 have hb3:(i:Int)≤(n:Int)+1:=by omega
 have hb4:¬(c=i):=by omega
 have mixed:Tryz.prog.follows .mixedOrders=true:=V.mixed
 go_enter Tryz.func107,Tryz.ntmps107
 go_wp2_with (simp only [hov])
 go_region_law_o (refine step_copy_runI rfl _ _ 31 31 rfl (.slice (some ⟨g,(i+1)*4,none⟩) (n+1 - (i+1)) (c - (i+1))) (.slice (some ⟨g,i*4,none⟩) (n+1 - i) (c - i)) (by simp [Act.eval,Act.put]) (by simp [Act.eval,Act.put]) (hcp1 _ _ _) ?_)
 go_wp2_with (at_builtin;refine wpList_copy_runI _ rfl _ _ 31 31 rfl (.slice (some ⟨g,i*4,none⟩) (n+1 - i) (c - i)) (.slice (some ⟨gv,0,none⟩) 1 vc) rfl rfl (hcp2 _ _ _) ?_)
 go_ret
 exact ⟨rfl,rfl⟩

structure NewRow (w w':World) (row:Array Value):Prop where
 os:w'.os=w.os
 tape:w'.tape=w.tape
 output:w'.output=w.output
 size:w'.heap.size=w.heap.size+1
 same:∀ k,k<w.heap.size→w'.heap[k]? =w.heap[k]?
 new:w'.heap[w.heap.size]? =some (.cells row 41 (0,0))

theorem zS (w:World)(row:Array Value):NewRow w (w.drew.alloc (.cells row 41)) row:=
 ⟨rfl,rfl,rfl,by show (w.heap.push _).size=_;simp,fun k hk=>heap_alloc_old w.drew _ hk,heap_alloc_new w.drew _⟩
theorem NewRow.drew {w w':World}{row:Array Value}(h:NewRow w w' row):NewRow w w'.drew row:=⟨h.os,h.tape,h.output,h.size,h.same,h.new⟩
theorem NewRow.set {w w':World}{row:Array Value}(h:NewRow w w' row)(row':Array Value):NewRow w (w'.setRow w.heap.size row') row':=
 ⟨h.os,h.tape,h.output,by simp [World.setRow,h.size],fun k hk=>(setRow_other w' _ k _ (by omega)).trans (h.same k hk),setRow_heap w' _ _ _ _ _ h.new⟩

theorem Sd (w:World)(g n c i gv vc:Nat)(cur curv:Array Value)(T Tv:TypeId)(fr frv:Nat×Nat)(pre mid vs:List Value)(hi:i<n)(hnc:n≤c)(hroom:c<n+1)(hbig:(n+1)*64≤140737488355328)
  (hg:w.heap[g]? =some (.cells cur T fr))(hgv:w.heap[gv]? =some (.cells curv Tv frv))
  (hvs:vs.length=4)(hvc:∀ (j:Nat) (v:Value),vs[j]? =some v→curv[j]? =some v)(h1v:∀ v∈vs,v.oneCell'=true)
  (hml:mid.length=(n - i)*4)(hmc:∀ (j:Nat) (v:Value),mid[j]? =some v→cur[i*4+j]? =some v)(h1m:∀ v∈mid,v.oneCell'=true)
  (hpl:pre.length=i*4)(hpc:∀ (j:Nat) (v:Value),pre[j]? =some v→cur[j]? =some v):
  Calls Tryz.prog 107 #[.slice (some ⟨g,0,none⟩) n c,.int .i64 i,.slice (some ⟨gv,0,none⟩) 1 vc] w fun e w'=>
   ∃ G ROW,e= .returned (.slice (some ⟨w.heap.size,0,none⟩) (n+1) G)∧n+1≤G∧G≤maxLen∧ROW.size=G*4∧(∀ (j:Nat) (v:Value),pre[j]? =some v→ROW[j]? =some v)∧NewRow w w' (fP (fP ROW (i*4) vs) ((i+1)*4) mid):=by
 obtain ⟨ti,tz,ti1,ti2,ti3,ti4,ti5⟩:=zR
 have hgl:g<w.heap.size:=(Array.getElem?_eq_some_iff.1 hg).1
 have hgvl:gv<w.heap.size:=(Array.getElem?_eq_some_iff.1 hgv).1
 have hz2:¬((i:Int)=(n:Int)):=by omega
 have hz3:(c:Int)<(n:Int)+1:=by omega
 have hkk:(n:Int)+1 - (i:Int)=((n+1 - i:Nat):Int):=by omega
 have hik:i+(n+1 - i)=n+1:=by omega
 have hold:(Builtin.firstCells ti.size i (.slice (some ⟨g,0,none⟩) i c)).run Tryz.prog w.drew= .ok pre.toArray w.drew:=by
  rw [ti3]
  exact run_firstCells_some w.drew 4 i ⟨g,0,none⟩ i c pre hpl (fun j v hj=>by
   rw [Addr.add_lit,Nat.zero_add]
   have hg0:w.drew.heap[g]? =some (.cells cur T fr):=hg
   simp only [World.cell?,hg0]
   exact hpc j v hj)
 have hrz:∀ ty,(Builtin.append_ #[31,3] ty #[.slice (some ⟨g,0,none⟩) i c,.int .i64 ((n:Int)+1 - (i:Int))]).run Tryz.prog w=
   .ok (.slice (some ⟨w.heap.size,0,none⟩) (n+1) (grownCap w (n+1) c 41)) (w.drew.alloc (.cells (pre.toArray++Builtin.zeroCells tz.cells (n+1 - i)++Builtin.zeroCells tz.cells (grownCap w (n+1) c 41 - (n+1))) 41)):=fun ty=>by
  have h:=Lib.run_append_grow_zeros (P:=Tryz.prog) w 31 3 ty 41 ti tz .i64 .i64 gZ (by kernel_rfl) ti1 ti2 (some ⟨g,0,none⟩) i c pre hold (n+1 - i) (by omega) (by omega) (by omega) (by omega) (by rw [ti4];omega) (by rw [ti4,hik];exact growslice_fits hroom hbig)
  rw [hik] at h
  rw [hkk]
  exact h
 have hGn:n+1≤grownCap w (n+1) c 41:=grownCap_ge w _ _ _
 have hGm:grownCap w (n+1) c 41≤maxLen:=grownCap_le_maxLen w (n+1) c 41 (by unfold maxLen;omega)
 obtain ⟨G,hG⟩:∃ G,G=grownCap w (n+1) c 41:=⟨_,rfl⟩
 obtain ⟨ROW,hROW⟩:∃ ROW:Array Value,ROW=pre.toArray++Builtin.zeroCells tz.cells (n+1 - i)++Builtin.zeroCells tz.cells (G - (n+1)):=⟨_,rfl⟩
 rw [←hG] at hrz hGn hGm
 rw [←hROW] at hrz
 have hRl:ROW.size=G*4:=by
  rw [hROW]
  simp only [Array.size_append,size_zeroCells,ti5,List.size_toArray,hpl]
  omega
 have hRp:∀ (j:Nat) (v:Value),pre[j]? =some v→ROW[j]? =some v:=fun j v hj=>by
  have hjl:=(List.getElem?_eq_some_iff.1 hj).1
  rw [hROW,Array.append_assoc,Array.getElem?_append_left (by simpa using hjl)]
  simpa using hj
 have n1:=zS w ROW
 obtain ⟨W1,hW1⟩:∃ W1,W1=w.drew.alloc (.cells ROW 41):=⟨_,rfl⟩
 rw [←hW1] at hrz n1
 have hcpA:∀ ty dc sc,(Builtin.copy_ #[31,31] ty #[.slice (some ⟨w.heap.size,i*4,none⟩) (n+1 - i) dc,.slice (some ⟨gv,0,none⟩) 1 sc]).run Tryz.prog W1= .ok (goInt 1) (W1.setRow w.heap.size (fP ROW (i*4) vs)):=fun ty dc sc=>by
  have hm:Nat.min 1 (n+1 - i)=1:=by simp only [Nat.min_def];split<;>omega
  have hgv1:=(n1.same gv hgvl).trans hgv
  have:=lH (P:=Tryz.prog) W1 31 31 ty 41 w.heap.size (i*4) (n+1 - i) dc ⟨gv,0,none⟩ 1 sc ROW 41 (0,0) vs gZ ti1 n1.new (by rw [hm,ti3];exact hvs)
   (fun j v hj=>by rw [Addr.add_lit];simp only [World.cell?,hgv1,Nat.zero_add];exact hvc j v hj) (by omega) (fun k _ _=>by simp) h1v
  rw [hm] at this
  exact this
 have n2:=(n1.set (fP ROW (i*4) vs)).drew
 have hrs:(fP ROW (i*4) vs).size=ROW.size:=dO (by omega)
 obtain ⟨W2,hW2⟩:∃ W2,W2=(W1.setRow w.heap.size (fP ROW (i*4) vs)).drew:=⟨_,rfl⟩
 rw [←hW2] at n2
 have hcpB:∀ ty dc sc,(Builtin.copy_ #[31,31] ty #[.slice (some ⟨w.heap.size,(i+1)*4,none⟩) (n+1 - (i+1)) dc,.slice (some ⟨g,i*4,none⟩) (n - i) sc]).run Tryz.prog W2= .ok (goInt ((n - i:Nat):Int)) (W2.setRow w.heap.size (fP (fP ROW (i*4) vs) ((i+1)*4) mid)):=fun ty dc sc=>by
  have hm:Nat.min (n - i) (n+1 - (i+1))=n - i:=by simp only [Nat.min_def];split<;>omega
  have hg2:=(n2.same g hgl).trans hg
  have:=lH (P:=Tryz.prog) W2 31 31 ty 41 w.heap.size ((i+1)*4) (n+1 - (i+1)) dc ⟨g,i*4,none⟩ (n - i) sc _ 41 (0,0) mid gZ ti1 n2.new (by rw [hm,ti3];exact hml)
   (fun j v hj=>by rw [Addr.add_lit];simp only [World.cell?,hg2];exact hmc j v hj) (by omega) (fun k _ _=>by simp) h1m
  rw [hm] at this
  exact this
 have n3:=n2.set (fP (fP ROW (i*4) vs) ((i+1)*4) mid)
 have hG63:G≤9223372036854775807:=by unfold maxLen at hGm;omega
 have hGi:¬(G=i):=by omega
 have hGim:¬(G=i+1):=by omega
 have hci:¬(c=i):=by omega
 have hw1:IntKind.i64.wrap ((i:Int)+1)=(i:Int)+1:=by rw [IntKind.wrap_i64];omega
 have hb1:(0:Int)≤(i:Int)+1:=by omega
 have hin:i≤n:=by omega
 have htn:((i:Int)+1).toNat=i+1:=by omega
 have hb3:(i:Int)≤(n:Int):=by omega
 have mixed:Tryz.prog.follows .mixedOrders=true:=V.mixed
 have hE:W1=(w.alloc (.cells ROW 41)).drew:=hW1
 rw [hE] at hcpA hW2 hrz
 clear hE hW1
 subst hW2
 clear hkk hik hold hROW hG ti1 ti2 ti3 ti4 ti5 n1 n2 hg hgv
 go_enter Tryz.func107,Tryz.ntmps107
 go_wp2_with (first
  | (at_builtin;refine Lib.wpList_append_run _ rfl _ _ _ _ rfl _ _ rfl rfl _ _ (hrz _) ?_)
  | (at_builtin;refine wpList_copy_runI _ rfl _ _ 31 31 rfl _ _ rfl rfl (hcpA _ _ _) ?_))
 go_region_law_o (refine step_copy_runI rfl _ _ 31 31 rfl (.slice (some ⟨w.heap.size,(i+1)*4,none⟩) (n+1 - (i+1)) (G - (i+1))) (.slice (some ⟨g,i*4,none⟩) (n - i) (c - i)) (by simp [Act.eval,Act.put]) (by simp [Act.eval,Act.put]) (hcpB _ _ _) ?_)
 go_wp2
 go_ret
 exact ⟨G,ROW,rfl,hGn,hGm,hRl,hRp,n3⟩

theorem IF (w:World)(g n c gv vc:Nat)(cur curv:Array Value)(T Tv:TypeId)(fr frv:Nat×Nat)(vs:List Value)(hroom:n+1≤c)(hc63:c≤9223372036854775807)
  (hg:w.heap[g]? =some (.cells cur T fr))(hgv:w.heap[gv]? =some (.cells curv Tv frv))(hcs:c*4≤cur.size)(hfr:∀ o,(fr.1≤o&&o<fr.2)=false)
  (hvs:vs.length=4)(hvc:∀ (j:Nat) (v:Value),vs[j]? =some v→curv[j]? =some v)(h1v:∀ v∈vs,V.Cell1 v):
  Calls Tryz.prog 107 #[.slice (some ⟨g,0,none⟩) n c,.int .i64 n,.slice (some ⟨gv,0,none⟩) 1 vc] w fun e w'=>
   e= .returned (.slice (some ⟨g,0,none⟩) (n+1) c)∧w'=w.setRow g (fP cur (n*4) vs):=by
 obtain ⟨ti,tz,ti1,ti2,ti3,ti4,ti5⟩:=zR
 have hf:(Builtin.firstCells ti.size 1 (.slice (some ⟨gv,0,none⟩) 1 vc)).run Tryz.prog w= .ok vs.toArray w:=by
  rw [ti3]
  exact V.run_firstCells_row Tryz.prog w (by omega) (fun j v hj=>by simp only [World.cell?,hgv,Nat.zero_add];exact hvc j v hj)
 have hrun:∀ ty,(Builtin.append_ #[31,31] ty #[.slice (some ⟨g,0,none⟩) n c,.slice (some ⟨gv,0,none⟩) 1 vc]).run Tryz.prog w= .ok (.slice (some ⟨g,0,none⟩) (n+1) c) (w.setRow g (fP cur (n*4) vs)):=fun ty=>by
  have h:=V.run_app_room (P:=Tryz.prog) (w:=w) (ty:=ty) gZ gZ ti1 (gg:=g) (sLen:=n) (sCap:=c) hg (A:=some ⟨gv,0,none⟩) (n:=1) (cap:=vc) (by rw [ti3];exact hvs) hf h1v hroom (fun o _=>hfr o) (by rw [ti3];exact hcs)
  rw [ti3] at h
  exact h
 clear hf ti1 ti2 ti3 ti4 ti5
 have mixed:Tryz.prog.follows .mixedOrders=true:=V.mixed
 go_enter Tryz.func107,Tryz.ntmps107
 go_wp2_with (at_builtin;refine Lib.wpList_append_run _ rfl _ _ _ _ rfl _ _ rfl rfl _ _ (hrun _) ?_)
 go_ret
 exact ⟨rfl,rfl⟩

theorem zT (w:World)(base:Option Nat)(n c gv vc:Nat)(curv:Array Value)(Tv:TypeId)(frv:Nat×Nat)(cs vs:List Value)(hnc:n≤c)(hroom:c<n+1)(hbig:(n+1)*64≤140737488355328)
  (hb:base=none→n=0)(hg:∀ g,base=some g→∀ (j:Nat) (v:Value),cs[j]? =some v→w.cell? ⟨g,j,none⟩=some v)(hcl:cs.length=n*4)(hgv:w.heap[gv]? =some (.cells curv Tv frv))
  (hvs:vs.length=4)(hvc:∀ (j:Nat) (v:Value),vs[j]? =some v→curv[j]? =some v):
  Calls Tryz.prog 107 #[.slice (base.map fun g=>⟨g,0,none⟩) n c,.int .i64 n,.slice (some ⟨gv,0,none⟩) 1 vc] w fun e w'=>
   ∃ G ROW,e= .returned (.slice (some ⟨w.heap.size,0,none⟩) (n+1) G)∧n+1≤G∧G≤maxLen∧ROW.size=G*4∧(∀ (j:Nat) (v:Value),(cs++vs)[j]? =some v→ROW[j]? =some v)∧NewRow w w' ROW:=by
 obtain ⟨ti,tz,ti1,ti2,ti3,ti4,ti5⟩:=zR
 have hf:(Builtin.firstCells ti.size 1 (.slice (some ⟨gv,0,none⟩) 1 vc)).run Tryz.prog w.drew= .ok vs.toArray w.drew:=by
  rw [ti3]
  have hgv0:w.drew.heap[gv]? =some (.cells curv Tv frv):=hgv
  exact V.run_firstCells_row Tryz.prog w.drew (by omega) (fun j v hj=>by simp only [World.cell?,hgv0,Nat.zero_add];exact hvc j v hj)
 have hfo:(Builtin.firstCells ti.size n (.slice (base.map fun g=>⟨g,0,none⟩) n c)).run Tryz.prog w.drew= .ok cs.toArray w.drew:=by
  rw [ti3]
  cases base with
  | none=>
   have h0:=hb rfl
   subst h0
   have hc0:cs=[]:=List.length_eq_zero_iff.1 (by simpa using hcl)
   rw [hc0]
   exact run_firstCells_none w.drew 4 0 0 c
  | some g=>exact V.run_firstCells_row Tryz.prog w.drew hcl (fun j v hj=>by rw [Nat.zero_add];exact hg g rfl j v hj)
 have hrun:∀ ty,(Builtin.append_ #[31,31] ty #[.slice (base.map fun g=>⟨g,0,none⟩) n c,.slice (some ⟨gv,0,none⟩) 1 vc]).run Tryz.prog w= .ok (.slice (some ⟨w.heap.size,0,none⟩) (n+1) (grownCap w (n+1) c 41))
   (w.drew.alloc (.cells (cs.toArray++vs.toArray++Builtin.zeroCells tz.cells (grownCap w (n+1) c 41 - (n+1))) 41)):=fun ty=>
  V.run_app_grow (P:=Tryz.prog) (w:=w) (ty:=ty) gZ gZ ti1 ti2 hfo hf hroom (by omega) (by rw [ti4];exact growslice_fits hroom hbig)
 have hGn:n+1≤grownCap w (n+1) c 41:=grownCap_ge w _ _ _
 have hGm:grownCap w (n+1) c 41≤maxLen:=grownCap_le_maxLen w (n+1) c 41 (by unfold maxLen;omega)
 obtain ⟨G,hG⟩:∃ G,G=grownCap w (n+1) c 41:=⟨_,rfl⟩
 obtain ⟨ROW,hROW⟩:∃ ROW:Array Value,ROW=cs.toArray++vs.toArray++Builtin.zeroCells tz.cells (G - (n+1)):=⟨_,rfl⟩
 rw [←hG] at hrun hGn hGm
 rw [←hROW] at hrun
 have hRl:ROW.size=G*4:=by
  rw [hROW]
  simp only [Array.size_append,size_zeroCells,ti5,List.size_toArray,hcl,hvs]
  omega
 have hRp:∀ (j:Nat) (v:Value),(cs++vs)[j]? =some v→ROW[j]? =some v:=fun j v hj=>by
  have hjl:=(List.getElem?_eq_some_iff.1 hj).1
  rw [hROW,Array.getElem?_append_left (by simpa using hjl)]
  simpa using hj
 have n1:=zS w ROW
 clear hf hfo hG hROW ti1 ti2 ti3 ti4 ti5 hg hgv
 have mixed:Tryz.prog.follows .mixedOrders=true:=V.mixed
 go_enter Tryz.func107,Tryz.ntmps107
 cases base with
 | none=>
  have h0:=hb rfl
  subst h0
  simp only [Option.map_none] at hrun ⊢
  go_wp2_with (at_builtin;refine Lib.wpList_append_run _ rfl _ _ _ _ rfl _ _ rfl rfl _ _ (hrun _) ?_)
  go_ret
  exact ⟨G,rfl,hGn,hGm,ROW,hRl,hRp,n1⟩
 | some g=>
  simp only [Option.map_some] at hrun ⊢
  go_wp2_with (at_builtin;refine Lib.wpList_append_run _ rfl _ _ _ _ rfl _ _ rfl rfl _ _ (hrun _) ?_)
  all_goals (go_ret;exact ⟨G,ROW,rfl,hGn,hGm,hRl,hRp,n1⟩)
end Go.Proofs.YtmgpamcpdblckaaGreatDoor

/-
Plain proofs: one package is put into a list.
-/
namespace Go.Proofs.YtmgpamcpdblckaaGreatDoor
namespace V
section
variable {W:Wld}{w w':World}{own:Own}{cx:Cx}

theorem Nm {sz:Nat}(hsz:0<sz){lf:Leaf}{xs:List (List D)}{cur:Array Value}{vs1:Nat→Nat→Value}(a8:∀ x∈xs,x.length=sz)(a9:∀ (k:Nat) (x:List D) (j:Nat) (d:D),xs[k]? =some x→x[j]? =some d→cur[k*sz+j]? =some (vs1 k j))
  (a10:∀ (k:Nat) (x:List D) (j:Nat) (d:D),xs[k]? =some x→x[j]? =some d→InRep w own lf true [(k,j)] d (vs1 k j))(o:Nat)(ho:o<xs.length*sz)(u:Value)(hu:cur[o]? =some u):Cell1 u:=by
 have hk:o / sz<xs.length:=Nat.div_lt_of_lt_mul (by rw [Nat.mul_comm];exact ho)
 have hx:xs[o / sz]? =some xs[o / sz]:=List.getElem?_eq_getElem hk
 have hj:o % sz<xs[o / sz].length:=by rw [a8 _ (List.mem_of_getElem? hx)];exact Nat.mod_lt _ hsz
 have hd:=List.getElem?_eq_getElem hj
 have h9:=a9 _ _ _ _ hx hd
 rw [Nat.div_add_mod',hu] at h9
 simp only [Option.some.injEq] at h9
 rw [h9]
 exact (a10 _ _ _ _ hx hd).cell1

theorem oQ {cur:Array Value}{o n:Nat}(j:Nat):((cur.toList.drop o).take n)[j]? =if j<n then cur[o+j]? else none:=by
 rw [List.getElem?_take]
 split
 ·rw [List.getElem?_drop,Array.getElem?_toList]
 ·rfl
theorem Cl {cur:Array Value}{o n:Nat}(h:o+n≤cur.size):((cur.toList.drop o).take n).length=n:=by
 rw [List.length_take,List.length_drop,Array.length_toList]
 omega

theorem zU {g' cap':Nat}{l:List Pk}{p:Pk}{i:Nat}(hi:i≤l.length){vals:List Value}
  (h:∃ own',WOk w own cx own' w'∧OwnRep w' cx own' (0,1) true ⟨4,true⟩ (.sl ((l.map ePk).take i++ePk p::(l.map ePk).drop i)) (.slice (some ⟨g',0,none⟩) ((l.map ePk).length+1) cap')):
  ∃ v own',Ending.returned (.slice (some ⟨g',0,none⟩) ((l.map ePk).length+1) cap')=Ending.returned v∧WOk w own cx own' w'∧mE w' cx own' fO [cJ (l.take i++p::l.drop i)] vals v:=by
 obtain ⟨own',h1,h2⟩:=h
 refine ⟨_,own',rfl,h1,?_⟩
 refine ⟨rfl,[.slice (some ⟨g',0,none⟩) ((l.map ePk).length+1) cap'],rfl,rfl,fun k q hq=>?_,fun i b hb=>by simp [boxPs] at hb⟩
 cases k with
 | succ k=>simp at hq
 | zero=>
  have hq:PSh.v false [.o true ⟨4,true⟩]=q:=by simpa using hq
  subst hq
  refine ⟨[.slice (some ⟨g',0,none⟩) ((l.map ePk).length+1) cap'],rfl,fun _=>rfl,rfl,rfl,fun j c dd v hc hd hv=>?_⟩
  cases j with
  | succ j=>simp at hc
  | zero=>
   simp only [List.getElem?_cons_zero,Option.some.injEq] at hc hv
   subst hc;subst hv
   have hd:some (D.sl ((l.take i++p::l.drop i).map ePk))=some dd:=hd
   simp only [Option.some.injEq] at hd
   subst hd
   refine ⟨⟨fun c h=>(by cases h),fun c h=>(by cases h)⟩,?_⟩
   simp only [List.map_append,List.map_cons,List.map_take,List.map_drop]
   exact h2

theorem Se (l:List Pk)(p:Pk)(i:Nat)(hi:i≤l.length)(hl:l.length≤lim):FunOk PP W rC fO [cJ l,i64 (i:Int),cJ [p]] [cJ (l.take i++p::l.drop i)]:=by
 refine ⟨⟨Tryz.f107,Tryz.func107,by kernel_rfl,by kernel_rfl⟩,fun w own cx vals hP hw hlow hvl hil hinv=>?_⟩
 match vals,hvl with
 | [v0,v1,v2],_=>
  obtain ⟨vs0,e0,l0,a0⟩:=hinv (0,.v false [.o true ⟨4,true⟩]) (List.mem_cons_self ..)
  obtain ⟨vs1,e1,l1,a1⟩:=hinv (1,.v false [.s]) (List.mem_cons_of_mem _ (List.mem_cons_self ..))
  obtain ⟨vs2,e2,l2,a2⟩:=hinv (2,.v false [.o true ⟨4,true⟩]) (List.mem_cons_of_mem _ (List.mem_cons_of_mem _ (List.mem_cons_self ..)))
  have hl0:=l0 rfl
  have hl1:=l1 rfl
  have hl2:=l2 rfl
  match vs0,hl0,vs1,hl1,vs2,hl2 with
  | [u0],_,[u1],_,[u2],_=>
   have h0:v0=u0:=e0
   have h1:v1=u1:=e1
   have h2:v2=u2:=e2
   subst h0;subst h1;subst h2
   obtain ⟨_,hr⟩:=a0.2.2 0 _ (.sl (l.map ePk)) v0 rfl rfl rfl
   obtain ⟨_,hs⟩:=a1.2.2 0 .s (.int .i64 (i:Int)) v1 rfl rfl rfl
   obtain ⟨_,hv⟩:=a2.2.2 0 _ (.sl ([p].map ePk)) v2 rfl rfl rfl
   have hv1:v1= .int .i64 (i:Int):=by cases hs;rfl
   subst hv1
   have hr:OwnRep w cx own (0,1) true ⟨4,true⟩ (.sl (l.map ePk)) v0:=hr
   have hv:OwnRep w cx own (2,1) true ⟨4,true⟩ (.sl ([p].map ePk)) v2:=hv
   have hlen:(l.map ePk).length=l.length:=List.length_map ..
   have hlim:lim=1073741824:=rfl
   generalize hxs:l.map ePk=xs at hr hlen
   cases hv with
   | ip _ _ hf=>cases hf
   | sl ys gv capv curv Tv frv wv q1 q2 q3 q4 q5 q6 q7 q8 q9 q10=>
    simp only [] at q3 q4 q5 q6 q8 q9 q10
    have q3:1≤capv:=q3
    have b9:∀ (j:Nat) (d:D),(ePk p)[j]? =some d→curv[j]? =some (wv 0 j):=fun j d hd=>by
     have:=q9 0 (ePk p) j d rfl hd
     rwa [Nat.zero_mul,Nat.zero_add] at this
    have b10:∀ (j:Nat) (d:D),(ePk p)[j]? =some d→InRep w own (2,1) true [(0,j)] d (wv 0 j):=fun j d hd=>q10 0 (ePk p) j d rfl hd
    have hfv:∀ o,(frv.1≤o&&o<frv.2)=false:=fun o=>q6 o (.inr (by decide))
    have hcv:4≤curv.size:=by omega
    have v1:((curv.toList.drop 0).take 4).length=4:=Cl (by omega)
    have v2:∀ (j:Nat) (v:Value),((curv.toList.drop 0).take 4)[j]? =some v→curv[j]? =some v:=fun j v hj=>by
     rw [oQ] at hj
     split at hj
     ·rwa [Nat.zero_add] at hj
     ·cases hj
    have v4:∀ j,j<4→((curv.toList.drop 0).take 4)[j]? =curv[j]? :=fun j hj=>by rw [oQ,if_pos hj,Nat.zero_add]
    have v3:∀ v∈(curv.toList.drop 0).take 4,Cell1 v:=fun v hm=>by
     obtain ⟨j,hj⟩:=List.getElem?_of_mem hm
     have hj4:=(List.getElem?_eq_some_iff.1 hj).1
     rw [v1] at hj4
     exact Nm (sz:=4) (by decide) (xs:=[ePk p]) (cur:=curv) (vs1:=wv) q8 q9 q10 j (by simpa using hj4) v (v2 j v hj)
    generalize (curv.toList.drop 0).take 4=vs at v1 v2 v3 v4
    have hgl:=jK q1
    cases hr with
    | ip _ _ hf=>cases hf
    | nil=>
     have hl0:l=[]:=by cases l with | nil=>rfl | cons a b=>simp at hxs
     subst hl0
     have hi0:i=0:=by simpa using hi
     subst hi0
     refine (zT w none 0 0 gv capv curv Tv frv [] vs (by omega) (by omega) (by omega) (fun _=>rfl) (fun g h=>by cases h) rfl q1 v1 v2).mono ?_
     rintro e w' ⟨G,ROW,rfl,k1,k2,k3,k4,k5⟩
     refine zU (l:=[]) (p:=p) (i:=0) (Nat.le_refl _) (sN hw (sz:=4) (cur:=#[]) (curv:=curv) (cur':=ROW) (T':=41) (fr':=(0,0)) (vs1:=fun _ _=>undef) (vs2:=wv 0) (fun x hx=>by simp at hx) (fun k x j d hk=>by simp at hk) (fun k x j d hk=>by simp at hk)
      (by rfl) b9 b10 (Nat.le_refl _) (by decide) k5.os k5.tape k5.output (by rw [k5.size];omega) (fun k hk _=>k5.same k hk) k5.new (.inl (Nat.le_refl _)) (fun k j hk hj=>?_) k1 k2 (by omega) (fun o _=>by simp))
     have hk0:k=0:=by simpa using hk
     subst hk0
     rw [if_neg (Nat.lt_irrefl _),if_pos rfl,←v4 j hj,Nat.zero_mul,Nat.zero_add]
     have hjl:j<vs.length:=by omega
     rw [List.getElem?_eq_getElem hjl]
     exact k4 j _ (by simpa using List.getElem?_eq_getElem hjl)
    | sl _ g cap cur T fr wx p1 p2 p3 p4 p5 p6 p7 p8 p9 p10=>
     simp only [] at p2 p5 p6 p8 p9 p10
     have hfr:∀ o,(fr.1≤o&&o<fr.2)=false:=fun o=>p6 o (.inr (by decide))
     have hne:gv≠g:=fun e=>by
      rw [e,p2] at q2
      simp at q2
     have hm63:maxLen=9223372036854775807:=rfl
     have hcap:l.length≤cap:=by omega
     have hrow:=Nm (sz:=4) (by decide) p8 p9 p10
     have hold:own g=some ⟨(0,1),[],some 0⟩∧∃ c0:Array Value,w.heap[g]? =some (.cells c0 T fr)∧cur.size=c0.size:=⟨p2,cur,p1,rfl⟩
     by_cases hin:i=l.length
     ·subst hin
      by_cases hroom:l.length+1≤cap
      ·rw [hlen]
       refine (IF w g l.length cap gv capv cur curv T Tv fr frv vs hroom (by omega) p1 q1 p5 hfr v1 v2 v3).mono ?_
       rintro e w' ⟨rfl,rfl⟩
       have hs:l.length*4+vs.length≤cur.size:=by omega
       have:=sN hw (w':=w.setRow g (fP cur (l.length*4) vs)) (sz:=4) (xs:=xs) (y:=ePk p) (i:=l.length) (g':=g) (cap':=cap) (cur:=cur) (curv:=curv) (cur':=fP cur (l.length*4) vs) (T':=T) (fr':=fr) (vs1:=wx) (vs2:=wv 0) p8 p9 p10
        (by rfl) b9 b10 (by omega) (by decide) rfl rfl rfl (by simp [World.setRow]) (fun k _ hk=>setRow_other w g k _ hk) (setRow_heap w g cur _ T fr p1) (.inr ⟨p2,cur,p1,dO hs⟩) (fun k j hk hj=>?_) (by omega) p4 (by rw [dO hs];exact p5) p6
       ·rw [←hxs] at this
        have h:=zU (l:=l) (p:=p) (i:=l.length) (vals:=[.slice (some ⟨g,0,none⟩) l.length cap,.int .i64 (l.length:Int),.slice (some ⟨gv,0,none⟩) 1 capv]) (Nat.le_refl _) this
        rw [hxs,hlen] at h
        exact h
       ·rw [tX hs]
        by_cases c1:k<l.length
        ·rw [if_pos (by omega),if_pos c1]
        ·have hk':k=l.length:=by omega
         subst hk'
         rw [if_neg (by omega),if_pos (by omega),if_neg (Nat.lt_irrefl _),if_pos rfl,show l.length*4+j - l.length*4=j by omega,v4 j hj]
      ·have c1:((cur.toList.drop 0).take (l.length*4)).length=l.length*4:=Cl (by omega)
       rw [hlen]
       refine (zT w (some g) l.length cap gv capv curv Tv frv ((cur.toList.drop 0).take (l.length*4)) vs hcap (by omega) (by omega) (fun h=>by cases h) (fun g0 hg0 j v hj=>by
        simp only [Option.some.injEq] at hg0
        subst hg0
        simp only [World.cell?,p1]
        rw [oQ] at hj
        split at hj
        ·rwa [Nat.zero_add] at hj
        ·cases hj) c1 q1 v1 v2).mono ?_
       rintro e w' ⟨G,ROW,rfl,k1,k2,k3,k4,k5⟩
       have:=sN hw (w':=w') (sz:=4) (xs:=xs) (y:=ePk p) (i:=l.length) (g':=w.heap.size) (cap':=G) (cur:=cur) (curv:=curv) (cur':=ROW) (T':=41) (fr':=(0,0)) (vs1:=wx) (vs2:=wv 0) p8 p9 p10
        (by rfl) b9 b10 (by omega) (by decide) k5.os k5.tape k5.output (by rw [k5.size];omega) (fun k hk _=>k5.same k hk) k5.new (.inl (Nat.le_refl _)) (fun k j hk hj=>?_) (by omega) k2 (by omega) (fun o _=>by simp)
       ·rw [←hxs] at this
        have h:=zU (l:=l) (p:=p) (i:=l.length) (vals:=[.slice (some ⟨g,0,none⟩) l.length cap,.int .i64 (l.length:Int),.slice (some ⟨gv,0,none⟩) 1 capv]) (Nat.le_refl _) this
        rw [hxs,hlen] at h
        exact h
       ·by_cases c2:k<l.length
        ·rw [if_pos c2]
         have hlt:k*4+j<cur.size:=by omega
         rw [Array.getElem?_eq_getElem hlt]
         refine k4 _ _ ?_
         rw [List.getElem?_append_left (by omega),oQ,if_pos (by omega),Nat.zero_add,Array.getElem?_eq_getElem hlt]
        ·have hk':k=l.length:=by omega
         subst hk'
         rw [if_neg (Nat.lt_irrefl _),if_pos rfl,←v4 j hj]
         have hjl:j<vs.length:=by omega
         rw [List.getElem?_eq_getElem hjl]
         refine k4 _ _ ?_
         rw [List.getElem?_append_right (by omega),c1,show l.length*4+j - l.length*4=j by omega,List.getElem?_eq_getElem hjl]
     ·have hin':i<l.length:=by omega
      have m1:((cur.toList.drop (i*4)).take ((l.length - i)*4)).length=(l.length - i)*4:=Cl (by omega)
      have m2:∀ (j:Nat) (v:Value),((cur.toList.drop (i*4)).take ((l.length - i)*4))[j]? =some v→cur[i*4+j]? =some v:=fun j v hj=>by
       rw [oQ] at hj
       split at hj
       ·exact hj
       ·cases hj
      have m4:∀ j,j<(l.length - i)*4→((cur.toList.drop (i*4)).take ((l.length - i)*4))[j]? =cur[i*4+j]? :=fun j hj=>by rw [oQ,if_pos hj]
      have m3:∀ v∈(cur.toList.drop (i*4)).take ((l.length - i)*4),v.oneCell'=true:=fun v hm=>by
       obtain ⟨j,hj⟩:=List.getElem?_of_mem hm
       have hjl:=(List.getElem?_eq_some_iff.1 hj).1
       exact (hrow (i*4+j) (by omega) v (m2 j v hj)).one
      generalize (cur.toList.drop (i*4)).take ((l.length - i)*4)=mid at m1 m2 m3 m4
      by_cases hroom:l.length+1≤cap
      ·rw [hlen]
       refine (Pj w g l.length cap i gv capv cur curv T Tv fr frv mid vs hin' hroom (by omega) hne p1 q1 p5 hfr hfv v1 v2 (fun v h=>(v3 v h).one) m1 m2 m3).mono ?_
       rintro e w' ⟨rfl,rfl⟩
       have hs:(i+1)*4+mid.length≤cur.size:=by omega
       have hs1:i*4+vs.length≤(fP cur ((i+1)*4) mid).size:=by rw [dO hs];omega
       have:=sN hw (w':=w.drew.setRow g (fP (fP cur ((i+1)*4) mid) (i*4) vs)) (sz:=4) (xs:=xs) (y:=ePk p) (i:=i) (g':=g) (cap':=cap) (cur:=cur) (curv:=curv) (cur':=fP (fP cur ((i+1)*4) mid) (i*4) vs) (T':=T) (fr':=fr) (vs1:=wx) (vs2:=wv 0) p8 p9 p10
        (by rfl) b9 b10 (by omega) (by decide) rfl rfl rfl (by show _≤(w.heap.modify _ _).size;simp) (fun k _ hk=>setRow_other w.drew g k _ hk) (setRow_heap w.drew g cur _ T fr p1) (.inr ⟨p2,cur,p1,by rw [dO hs1,dO hs]⟩) (fun k j hk hj=>?_) (by omega) p4 (by rw [dO hs1,dO hs];exact p5) p6
       ·rw [←hxs] at this
        have h:=zU (l:=l) (p:=p) (i:=i) (vals:=[.slice (some ⟨g,0,none⟩) l.length cap,.int .i64 (i:Int),.slice (some ⟨gv,0,none⟩) 1 capv]) hi this
        rw [hxs,hlen] at h
        exact h
       ·rw [tX hs1,tX hs]
        by_cases c1:k<i
        ·rw [if_pos (by omega),if_pos (by omega),if_pos c1]
        ·by_cases c2:k=i
         ·subst c2
          rw [if_neg (by omega),if_pos (by omega),if_neg (Nat.lt_irrefl _),if_pos rfl,show k*4+j - k*4=j by omega,v4 j hj]
         ·rw [if_neg (by omega),if_neg (by omega),if_neg (by omega),if_pos (by omega),if_neg c1,if_neg c2,m4 _ (by omega)]
          congr 1
          omega
      ·have c1:((cur.toList.drop 0).take (i*4)).length=i*4:=Cl (by omega)
       rw [hlen]
       refine (Sd w g l.length cap i gv capv cur curv T Tv fr frv ((cur.toList.drop 0).take (i*4)) mid vs hin' hcap (by omega) (by omega) p1 q1 v1 v2 (fun v h=>(v3 v h).one) m1 m2 m3 c1 (fun j v hj=>by
        rw [oQ] at hj
        split at hj
        ·rwa [Nat.zero_add] at hj
        ·cases hj)).mono ?_
       rintro e w' ⟨G,ROW,rfl,k1,k2,k3,k4,k5⟩
       have hs1:i*4+vs.length≤ROW.size:=by omega
       have hs:(i+1)*4+mid.length≤(fP ROW (i*4) vs).size:=by rw [dO hs1];omega
       have:=sN hw (w':=w') (sz:=4) (xs:=xs) (y:=ePk p) (i:=i) (g':=w.heap.size) (cap':=G) (cur:=cur) (curv:=curv) (cur':=fP (fP ROW (i*4) vs) ((i+1)*4) mid) (T':=41) (fr':=(0,0)) (vs1:=wx) (vs2:=wv 0) p8 p9 p10
        (by rfl) b9 b10 (by omega) (by decide) k5.os k5.tape k5.output (by rw [k5.size];omega) (fun k hk _=>k5.same k hk) k5.new (.inl (Nat.le_refl _)) (fun k j hk hj=>?_) (by omega) k2 (by rw [dO hs,dO hs1];omega) (fun o _=>by simp)
       ·rw [←hxs] at this
        have h:=zU (l:=l) (p:=p) (i:=i) (vals:=[.slice (some ⟨g,0,none⟩) l.length cap,.int .i64 (i:Int),.slice (some ⟨gv,0,none⟩) 1 capv]) hi this
        rw [hxs,hlen] at h
        exact h
       ·rw [tX hs,tX hs1]
        by_cases c3:k<i
        ·rw [if_pos (by omega),if_pos (by omega),if_pos c3]
         have hlt:k*4+j<cur.size:=by omega
         rw [Array.getElem?_eq_getElem hlt]
         refine k4 _ _ ?_
         rw [oQ,if_pos (by omega),Nat.zero_add,Array.getElem?_eq_getElem hlt]
        ·by_cases c2:k=i
         ·subst c2
          rw [if_pos (by omega),if_neg (by omega),if_pos (by omega),if_neg (Nat.lt_irrefl _),if_pos rfl,show k*4+j - k*4=j by omega,v4 j hj]
         ·rw [if_neg (by omega),if_pos (by omega),if_neg c3,if_neg c2,m4 _ (by omega)]
          congr 1
          omega
end
section
open Classical
variable {W:Wld}

def Md (s:List Pk):Prop:=s.Pairwise bN
theorem Nn {s:List Pk}(h:Bo s):Md s:=Uj fun i j h0 hij hj=>SQ h _ i j rfl h0 hij hj
def vP (q p:Pk):Prop:=q.name=p.name∧q.ver=p.ver
theorem IG {p q r:Pk}(h1:bN p q)(h2:bN q r):bN p r:=by unfold bN at *;omega
theorem Sg {p q:Pk}(h1:bN p q):¬bN q p:=by unfold bN at *;omega
theorem Ut {p q:Pk}(h1:bN p q):¬vP p q:=by unfold bN vP at *;omega
theorem Uu {p q:Pk}(h1:¬bN p q)(h2:¬vP p q):bN q p:=by unfold bN vP at *;omega
noncomputable def fQ:List Pk→Pk→Nat
 | [],_=>0
 | a::r,p=>if bN a p then fQ r p+1 else 0
theorem IH:∀ (ps:List Pk) (p:Pk),fQ ps p≤ps.length
 | [],p=>Nat.le_refl _
 | a::r,p=>by
  have:=IH r p
  unfold fQ
  split
  ·simp only [List.length_cons];omega
  ·omega
theorem FA:∀ {ps:List Pk} {p:Pk},Md ps→(∀ q∈ps.take (fQ ps p),bN q p)∧(∀ q∈ps.drop (fQ ps p),¬bN q p)
 | [],p,_=>by simp [fQ]
 | a::r,p,hs=>by
  obtain ⟨h1,h2⟩:=List.pairwise_cons.1 hs
  obtain ⟨h3,h4⟩:=FA (p:=p) h2
  unfold fQ
  split
  ·rename_i h
   refine ⟨fun q hq=>?_,fun q hq=>?_⟩
   ·rw [List.take_succ_cons] at hq
    rcases List.mem_cons.1 hq with e | e
    ·rw [e];exact h
    ·exact h3 q e
   ·rw [List.drop_succ_cons] at hq
    exact h4 q hq
  ·rename_i h
   refine ⟨fun q hq=>by simp at hq,fun q hq=>?_⟩
   rw [List.drop_zero] at hq
   rcases List.mem_cons.1 hq with e | e
   ·rw [e];exact h
   ·exact fun h'=>h (IG (h1 q e) h')
theorem Cm {ps:List Pk}{p:Pk}(hs:Md ps){m:Int}(h0:0≤m)(h1:m<ps.length):bN (ix ps m) p↔m<fQ ps p:=by
 obtain ⟨h2,h3⟩:=FA (p:=p) hs
 have hx:ps[m.toNat]? =some (ix ps m):=by
  have:m.toNat<ps.length:=by omega
  rw [List.getElem?_eq_getElem this]
  simp [ix,this]
 by_cases hm:m<fQ ps p
 ·refine ⟨fun _=>hm,fun _=>h2 _ ?_⟩
  refine List.mem_of_getElem? (i:=m.toNat) ?_
  rw [List.getElem?_take,if_pos (by omega)]
  exact hx
 ·refine ⟨fun h=>?_,fun h=>absurd h hm⟩
  exact absurd h (h3 (ix ps m) (List.mem_of_getElem? (i:=m.toNat - fQ ps p) (by rw [List.getElem?_drop,show fQ ps p+(m.toNat - fQ ps p)=m.toNat by omega];exact hx)))
def eR (ps:List Pk)(p:Pk):Prop:=∃ q∈ps,vP q p
theorem Gh {ps:List Pk}{p:Pk}(hs:Md ps):eR ps p↔(fQ ps p<ps.length∧vP (ix ps (fQ ps p:Nat)) p):=by
 constructor
 ·rintro ⟨q,hq,e⟩
  obtain ⟨j,j0,j1,rfl⟩:=Ag hq
  have hj:¬j<fQ ps p:=fun h=>Ut ((Cm hs j0 j1).2 h) e
  have hc:fQ ps p<ps.length:=by omega
  refine ⟨hc,?_⟩
  by_cases hjc:j=(fQ ps p:Nat)
  ·rw [←hjc];exact e
  ·have h1:¬bN (ix ps (fQ ps p:Nat)) p:=fun h=>by have:=(Cm hs (by omega) (by omega)).1 h;omega
   have h2:bN (ix ps (fQ ps p:Nat)) (ix ps j):=by
    have a1:ix ps (fQ ps p:Nat)=ps[fQ ps p]:=by simp [ix,hc]
    have a2:ix ps j=ps[j.toNat]'(by omega):=by simp [ix,show j.toNat<ps.length by omega]
    rw [a1,a2]
    exact List.pairwise_iff_getElem.1 hs _ _ _ _ (by omega)
   unfold bN vP at *
   omega
 ·rintro ⟨h1,h2⟩
  exact ⟨_,oX (by omega) (by omega),h2⟩
noncomputable def Wc (ps:List Pk)(p:Pk):List Pk:=ps.take (fQ ps p)++p::ps.drop (fQ ps p)
theorem Si {α:Type}{f:α→Bool}:∀ {l:List α},(∀ x∈l,f x=true)→l.filter f=l:=fun h=>List.filter_eq_self.2 h
theorem An:∀ {ps:List Pk} {p:Pk},Md ps→¬eR ps p→zF ps p=Wc ps p
 | [],p,_,_=>rfl
 | a::r,p,hs,hn=>by
  obtain ⟨h1,h2⟩:=List.pairwise_cons.1 hs
  have hn':¬eR r p:=fun ⟨q,hq,e⟩=>hn ⟨q,List.mem_cons_of_mem _ hq,e⟩
  have ha:¬vP a p:=fun e=>hn ⟨a,List.mem_cons_self ..,e⟩
  have ih:=An h2 hn'
  unfold zF Wc at *
  by_cases h:bN a p
  ·have e1:fQ (a::r) p=fQ r p+1:=by rw [fQ,if_pos h]
   rw [e1,List.take_succ_cons,List.drop_succ_cons,List.cons_append,←ih,List.filter_cons,if_pos (decide_eq_true h),List.filter_cons,if_neg (by rw [decide_eq_true_eq];exact Sg h)]
   simp
  ·have e1:fQ (a::r) p=0:=by rw [fQ,if_neg h]
   have hp:bN p a:=Uu h ha
   rw [e1]
   have e2:(a::r).filter (fun q=>decide (bN q p))=[]:=List.filter_eq_nil_iff.2 fun q hq=>by
    rw [decide_eq_true_eq]
    rcases List.mem_cons.1 hq with e | e
    ·rw [e];exact h
    ·exact fun h'=>h (IG (h1 q e) h')
   have e3:(a::r).filter (fun q=>decide (bN p q))=a::r:=Si fun q hq=>by
    rw [decide_eq_true_eq]
    rcases List.mem_cons.1 hq with e | e
    ·rw [e];exact hp
    ·exact IG hp (h1 q e)
   rw [e2,e3]
   rfl
end
section
open Classical
variable {W:Wld}

theorem By (p:Pk)(hP:PkOk p):FunOk PP W lQ eI [sT (textM p)] [ePk p,bo true]:=by
 have hl:=uL p
 have h:=Ez (W:=W) (textM p) (by omega)
 rw [Ex hP] at h
 exact h
theorem Pl (x:Ix)(hl:x.ms.length≤lim)(p:Pk)(hs:SmP p)(hP:PkOk p):FunOk PP W mW gK [FF x,sT (textM p)] [ePk (if nV p∈x.ms then p else VT),bo (decide (nV p∈x.ms))]:=by
 have hlen:=uL p
 unfold lim at hl
 by_cases hm:nV p∈x.ms
 ·rw [decide_eq_true hm,if_pos hm]
  refine Ac (aI ?_)
  (repeat' first
  | (refine run_ite rfl (fun h=>?_) (fun h=>?_)<;>(try simp (disch:=omega) only [zB,eqDs,aZ,Nat.reduceAdd,aA] at h)<;>(try (exfalso;omega)))
  | refine aG rfl ?_
  | refine aH rfl ?_
  | (refine bJ rfl (By p hP) rfl rfl ?_)
  | refine aB rfl ?_ ?_
  | (refine aD rfl ?_;first | refine rb ?_ | refine ri ?_ | refine bI ?_ ?_ | refine bL ?_)
  | refine aC rfl ?_)
  refine aU rfl (fun i:Int=>0≤i∧i≤x.ms.length∧mF i (fun j=>¬ix x.ms j=nV p)) (fun i=>[(8,.val (i64 i)),(2,.val (FF x)),(6,.val (ePk p)),(1,.val (sT (textM p))),(4,.val [.int .i64 0,.int .i64 0,.sl [],.sl []])]) (fun i=>(x.ms.length - i).toNat) 0 ⟨by omega,by omega,bE _⟩ ⟨rfl,rfl,rfl,rfl,rfl,trivial⟩ rfl ?_
  rintro i e ⟨h0,hN,hB⟩
  have hmt:(ix x.ms i).name=p.name→(ix x.ms i).ver=p.ver→(ix x.ms i).sum=zK (textM p)→ix x.ms i=nV p:=fun a b c=>IA a b c
  have hno:nV p∈x.ms→¬mF x.ms.length (fun j=>¬ix x.ms j=nV p):=fun h hb=>by
   obtain ⟨j,j0,j1,e⟩:=Ag h
   exact hb j j0 j1 e
  have hnm:∀ {q:Mt},q=nV p→q.name=p.name∧q.ver=p.ver∧q.sum=zK (textM p):=fun h=>by rw [h];exact ⟨rfl,rfl,rfl⟩
  (repeat' first
  | (refine run_ite rfl (fun h=>?_) (fun h=>?_)<;>(try simp (disch:=omega) only [zB,eqDs,aZ,Nat.reduceAdd,aA] at h)<;>(try (exfalso;omega)))
  | refine aG rfl ?_
  | refine aH rfl ?_
  | refine aE rfl (Gc (textM p) (by omega)) rfl ?_
  | (refine aT rfl (Exists.intro (i+1) ⟨by omega,⟨by omega,by omega,cF hB ?_⟩,aO (aA _ (by omega)),rfl,rfl,rfl,rfl,trivial⟩))
  | refine aB rfl ?_ ?_
  | (refine aD rfl ?_;first | refine rb ?_ | refine ri ?_ | refine bI ?_ ?_ | refine bL ?_)
  | refine aC rfl ?_)
  all_goals first
   | rfl
   | exact fun h'=>h (hnm h').2.2
   | exact fun h'=>h (hnm h').2.1
   | exact fun h'=>h (hnm h').1
   | exact absurd (hmt (by assumption) (by assumption) h) (fun h'=>hm (h'▸oX h0 (by omega)))
   | exact absurd hm (fun h'=>hno h' (dF hB (by omega)))
 ·rw [decide_eq_false hm,if_neg hm]
  refine Ac (aI ?_)
  (repeat' first
  | (refine run_ite rfl (fun h=>?_) (fun h=>?_)<;>(try simp (disch:=omega) only [zB,eqDs,aZ,Nat.reduceAdd,aA] at h)<;>(try (exfalso;omega)))
  | refine aG rfl ?_
  | refine aH rfl ?_
  | (refine bJ rfl (By p hP) rfl rfl ?_)
  | refine aB rfl ?_ ?_
  | (refine aD rfl ?_;first | refine rb ?_ | refine ri ?_ | refine bI ?_ ?_ | refine bL ?_)
  | refine aC rfl ?_)
  refine aU rfl (fun i:Int=>0≤i∧i≤x.ms.length∧mF i (fun j=>¬ix x.ms j=nV p)) (fun i=>[(8,.val (i64 i)),(2,.val (FF x)),(6,.val (ePk p)),(1,.val (sT (textM p))),(4,.val [.int .i64 0,.int .i64 0,.sl [],.sl []])]) (fun i=>(x.ms.length - i).toNat) 0 ⟨by omega,by omega,bE _⟩ ⟨rfl,rfl,rfl,rfl,rfl,trivial⟩ rfl ?_
  rintro i e ⟨h0,hN,hB⟩
  have hmt:(ix x.ms i).name=p.name→(ix x.ms i).ver=p.ver→(ix x.ms i).sum=zK (textM p)→ix x.ms i=nV p:=fun a b c=>IA a b c
  have hno:nV p∈x.ms→¬mF x.ms.length (fun j=>¬ix x.ms j=nV p):=fun h hb=>by
   obtain ⟨j,j0,j1,e⟩:=Ag h
   exact hb j j0 j1 e
  have hnm:∀ {q:Mt},q=nV p→q.name=p.name∧q.ver=p.ver∧q.sum=zK (textM p):=fun h=>by rw [h];exact ⟨rfl,rfl,rfl⟩
  (repeat' first
  | (refine run_ite rfl (fun h=>?_) (fun h=>?_)<;>(try simp (disch:=omega) only [zB,eqDs,aZ,Nat.reduceAdd,aA] at h)<;>(try (exfalso;omega)))
  | refine aG rfl ?_
  | refine aH rfl ?_
  | refine aE rfl (Gc (textM p) (by omega)) rfl ?_
  | (refine aT rfl (Exists.intro (i+1) ⟨by omega,⟨by omega,by omega,cF hB ?_⟩,aO (aA _ (by omega)),rfl,rfl,rfl,rfl,trivial⟩))
  | refine aB rfl ?_ ?_
  | (refine aD rfl ?_;first | refine rb ?_ | refine ri ?_ | refine bI ?_ ?_ | refine bL ?_)
  | refine aC rfl ?_)
  all_goals first
   | rfl
   | exact fun h'=>h (hnm h').2.2
   | exact fun h'=>h (hnm h').2.1
   | exact fun h'=>h (hnm h').1
   | exact absurd (hmt (by assumption) (by assumption) h) (fun h'=>hm (h'▸oX h0 (by omega)))
   | exact absurd hm (fun h'=>hno h' (dF hB (by omega)))
end
section
open Classical
open Go.RowKit

def vG:Nat:=Nat.max (Nat.max 0 1) 2+1
def vW:Wld where
 G:=vG
 P:=fun w=>vG≤w.heap.size∧(∃ m,w.cell? ⟨0,0,none⟩=some (.int .i64 m))∧(∃ v,w.cell? ⟨1,0,none⟩=some v∧Wu v)∧∃ v,w.cell? ⟨2,0,none⟩=some v∧Wu v
 size:=fun w h=>h.1
 keep:=fun own w w' hk hlow h=>by
  have key:∀ g,g<vG→∀ v,w.cell? ⟨g,0,none⟩=some v→w'.cell? ⟨g,0,none⟩=some v:=fun g hg v hc=>by
   have hn:own g=none:=by
    cases ho:own g with
    | none=>rfl
    | some i=>have:=hlow _ i ho;omega
   have hb:=hk.block g (by have:=h.1;omega) hn
   simp only [World.cell?,hb] at hc ⊢
   exact hc
  obtain ⟨h0,⟨m,hm⟩,⟨v,hv,hv'⟩,u,hu,hu'⟩:=h
  exact ⟨Nat.le_trans h0 hk.size,⟨m,key _ (by decide) _ hm⟩,⟨v,key _ (by decide) _ hv,hv'⟩,u,key _ (by decide) _ hu,hu'⟩
theorem Xe {w:World}(h0:∃ m,w.cell? ⟨0,0,none⟩=some (.int .i64 m))(h1:∃ v,w.cell? ⟨1,0,none⟩=some v∧Wu v)(h2:∃ v,w.cell? ⟨2,0,none⟩=some v∧Wu v):vW.P w:=by
 refine ⟨?_,h0,h1,h2⟩
 obtain ⟨_,a0⟩:=h0
 obtain ⟨_,a1,_⟩:=h1
 obtain ⟨_,a2,_⟩:=h2
 exact Nat.succ_le_of_lt (Nat.max_lt.2 ⟨Nat.max_lt.2 ⟨eM a0,eM a1⟩,eM a2⟩)
theorem Pm {w w':World}{own:Own}{cx:Cx}(hw:WOk w own cx own w)(hb:Below w.heap.size w w'):WOk w own cx (fun _=>none) w':=
 ⟨⟨hb.os,hb.tape,hb.output,hb.size,fun g hg _=>hb.block g hg,fun g o hg _=>by simp only [World.cell?,hb.block g hg],fun g cur T h=>⟨cur,by rw [hb.block g (jK h)];exact h,rfl⟩⟩,fun g i h=>(by cases h),hw.n,hw.s1,hw.s2,fun g o _ hc=>(by obtain ⟨i,b,h1,_⟩:=hc;cases h1),fun g g' i j h=>(by cases h)⟩
theorem Ao {w w':World}{own:Own}{cx:Cx}{sig:Sig}{vals rv:List Value}{outs:List (List D)}(hw:WOk w own cx own w)(hb:Below w.heap.size w w')(hbx:boxPs sig.ps 0=[])(hio:DR sig=none)
  (hlo:outs.length=sig.rs.length)(hlr:rv.length=sig.rs.length)(h:∀ (k:Nat) (p:PSh),sig.rs[k]? =some p→∃ d v c,outs[k]? =some [d]∧rv[k]? =some v∧p= .v false [c]∧aN w' cx (fun _=>none) k 0 c d v):∃ u own',Ending.returned (retV rv)= .returned u∧WOk w own cx own' w'∧mE w' cx own' sig outs vals u:=by
 refine ⟨retV rv,fun _=>none,rfl,Pm hw hb,?_⟩
 unfold mE
 rw [hio]
 refine ⟨by rw [hlo,hbx];rfl,rv,hlr,rfl,fun k p hp=>?_,fun i b hb=>by rw [hbx] at hb;simp at hb⟩
 obtain ⟨d,v,c,h1,h2,rfl,h3⟩:=h k p hp
 refine ⟨[v],?_,fun _=>rfl,?_,?_,fun i c' dd u hc hd hv=>?_⟩
 ·show (rv++_).getD k undef=v
  rw [hbx]
  simp [List.getD,h2]
 ·show [c].length=(outs.getD k []).length
  simp [List.getD,h1]
 ·show [v].length=(outs.getD k []).length
  simp [List.getD,h1]
 ·cases i with
  | succ i=>simp at hc
  | zero=>
   have e:envL outs k=[d]:=by simp [envL,List.getD,h1]
   rw [e] at hd
   simp only [List.getElem?_cons_zero,Option.some.injEq] at hc hd hv
   subst hc;subst hd;subst hv
   exact h3
theorem Xf {v:ByteArray}:Cell1 (.string v):=⟨fun c h=>(by cases h),fun c h=>(by cases h)⟩
theorem zV {w:World}{cx:Cx}{own:Own}{ins:List (List D)}{vals:List Value}{k:Nat}{s:ByteArray}{v:Value}(h:SlotOk w cx own (envL ins) (tvL vals) k (.v false [.s]))(hi:ins[k]? =some [.str s])(hv:vals[k]? =some v):v= .string s:=by
 obtain ⟨vs,e0,l0,a0⟩:=h
 match vs,l0 rfl with
 | [u],_=>
  have e1:v=u:=by
   have:tvL vals k=v:=by simp [tvL,List.getD,hv]
   rw [←this];exact e0
  subst e1
  have ei:envL ins k=[.str s]:=by simp [envL,List.getD,hi]
  obtain ⟨_,hsc⟩:=a0.2.2 0 .s (.str s) v rfl (by rw [ei];rfl) rfl
  have hsc:Scal (.str s) v:=hsc
  cases hsc
  rfl
theorem Sj (l:List UInt8)(hl:l.length≤2000000):FunOk PP vW rB hU [sT l,sT [32]] [XZ (cG l)]:=by
 refine ⟨⟨Tryz.f95,Tryz.func95,by kernel_rfl,by kernel_rfl⟩,fun w own cx vals hP hw hlow hvl hil hinv=>?_⟩
 match vals,hvl with
 | [v0,v1],_=>
  have h0:=zV (hinv (0,.v false [.s]) (List.mem_cons_self ..)) rfl rfl
  have h1:=zV (hinv (1,.v false [.s]) (List.mem_cons_of_mem _ (List.mem_cons_self ..))) rfl rfl
  subst h0;subst h1
  obtain ⟨_,⟨m,hm⟩,_⟩:=hP
  refine (Tryz.strings_Split (bA l) (bA [32]) m w (by rw [bA_size];omega) hm (by decide)).mono ?_
  rintro e w' ⟨rfl,rfl⟩
  have hsp:Lib.splitB (bA [32]) 0 (Lib.countB (bA l) (bA [32])) (bA l)=(cG l).map bA:=Mc l
  have hcn:Lib.countB (bA l) (bA [32])+1=(cG l).length:=by
   have:=Lib.splitB_all (bA [32]) (by decide) 0 _ (bA l) rfl
   rw [hsp,List.length_map] at this
   omega
  rw [hsp,hcn]
  have hnew:(w.alloc (.cells ((((cG l).map bA).map Value.string).toArray) 9)).heap[w.heap.size]? =some (.cells ((((cG l).map bA).map Value.string).toArray) 9 (0,0)):=heap_alloc_new w _
  have hN:cx.N w.heap.size:=(hw.n _).2 (.inl (Nat.le_refl _))
  refine Ao (rv:=[.slice (some ⟨w.heap.size,0,none⟩) (cG l).length (cG l).length]) hw (eK w _) rfl rfl rfl rfl (fun k p hp=>?_)
  cases k with
  | succ k=>simp at hp
  | zero=>
   have hp:PSh.v false [.r]=p:=by simpa using hp
   subst hp
   refine ⟨.sl ((cG l).map eW),_,.r,rfl,rfl,rfl,⟨fun c h=>(by cases h),fun c h=>(by cases h)⟩,?_⟩
   have hr:=Rep.sl (w:=w.alloc (.cells ((((cG l).map bA).map Value.string).toArray) 9)) (S:=RS cx (fun _=>none)) ((cG l).map eW) w.heap.size 0 1 (cG l).length (fun i _=> .string (bA (ix (cG l) i))) (by simp) (fun x hx=>by obtain ⟨y,_,rfl⟩:=List.mem_map.1 hx;rfl)
    (fun i x j d hx hj=>by
     rw [List.getElem?_map,Option.map_eq_some_iff] at hx
     obtain ⟨y,hy,rfl⟩:=hx
     cases j with
     | succ j=>simp at hj
     | zero=>
      have hi:=(List.getElem?_eq_some_iff.1 hy).1
      have hix:ix (cG l) (i:Int)=y:=by simp [ix,hy]
      simp only [World.cell?,hnew]
      simp [hy,hix])
    (fun i x j d hx hj=>⟨rfl,.inr hN⟩)
    (fun i x j d hx hj=>by
     rw [List.getElem?_map,Option.map_eq_some_iff] at hx
     obtain ⟨y,hy,rfl⟩:=hx
     cases j with
     | succ j=>simp at hj
     | zero=>
      have hix:ix (cG l) (i:Int)=y:=by simp [ix,hy]
      simp only [List.getElem?_cons_zero,Option.some.injEq] at hj
      subst hj
      rw [hix]
      exact .scal (.str _))
   simp only [List.length_map] at hr
   exact hr
theorem Wd (w0:List UInt8)(a b:List UInt8)(t:Bool)(hl:w0.length≤2000000)(hc:Lib.cut w0 [58]=(a,b,t)):FunOk PP vW vE lG [sT w0,sT [58]] [sT a,sT b,bo t]:=by
 refine ⟨⟨Tryz.f97,Tryz.func97,by kernel_rfl,by kernel_rfl⟩,fun w own cx vals hP hw hlow hvl hil hinv=>?_⟩
 match vals,hvl with
 | [v0,v1],_=>
  have h0:=zV (hinv (0,.v false [.s]) (List.mem_cons_self ..)) rfl rfl
  have h1:=zV (hinv (1,.v false [.s]) (List.mem_cons_of_mem _ (List.mem_cons_self ..))) rfl rfl
  subst h0;subst h1
  obtain ⟨_,⟨m,hm⟩,_⟩:=hP
  have e:Lib.cut (bA w0).data.toList (bA [58]).data.toList=(a,b,t):=hc
  refine (Tryz.strings_Cut (bA w0) (bA [58]) m w (by rw [bA_size];omega) hm).mono ?_
  rw [e]
  rintro en w' ⟨rfl,n,rfl⟩
  refine Ao (rv:=[.string (bA a),.string (bA b),.bool t]) hw ⟨rfl,rfl,rfl,Nat.le_refl _,fun _ _=>rfl⟩ rfl rfl rfl rfl (fun k p hp=>?_)
  match k,hp with
  | 0,hp=>
   have hp:PSh.v false [.s]=p:=by simpa using hp
   subst hp
   exact ⟨_,_,.s,rfl,rfl,rfl,Xf,.str _⟩
  | 1,hp=>
   have hp:PSh.v false [.s]=p:=by simpa using hp
   subst hp
   exact ⟨_,_,.s,rfl,rfl,rfl,Xf,.str _⟩
  | 2,hp=>
   have hp:PSh.v false [.s]=p:=by simpa using hp
   subst hp
   exact ⟨_,_,.s,rfl,rfl,rfl,⟨fun c h=>(by cases h),fun c h=>(by cases h)⟩,.bool _⟩
  | k+3,hp=>simp at hp
theorem II (l:List UInt8)(hl:l.length≤2000000):FunOk PP vW jS dG [sT l] [i64 (SV l),[.bad]]:=by
 refine ⟨⟨Tryz.f98,Tryz.func98,by kernel_rfl,by kernel_rfl⟩,fun w own cx vals hP hw hlow hvl hil hinv=>?_⟩
 match vals,hvl with
 | [v0],_=>
  have h0:=zV (hinv (0,.v false [.s]) (List.mem_cons_self ..)) rfl rfl
  subst h0
  obtain ⟨_,_,⟨ev,hv,hev⟩,er,hr,her⟩:=hP
  have hd:(bA l).data.toList=l:=by simp [bA]
  have fin:∀ (n:Int) (v:Value) (w':World),Below w.heap.size w w'→Cell1 v→∃ u own',Ending.returned (retV [.int .i64 n,v])= .returned u∧WOk w own cx own' w'∧mE w' cx own' dG [i64 n,[.bad]] [Value.string (bA l)] u:=fun n v w' hb hc=>by
   refine Ao (rv:=[.int .i64 n,v]) hw hb rfl rfl rfl rfl (fun k p hp=>?_)
   match k,hp with
   | 0,hp=>
    have hp:PSh.v false [.s]=p:=by simpa using hp
    subst hp
    exact ⟨_,_,.s,rfl,rfl,rfl,⟨fun c h=>(by cases h),fun c h=>(by cases h)⟩,.int _ _⟩
   | 1,hp=>
    have hp:PSh.v false [.x]=p:=by simpa using hp
    subst hp
    exact ⟨.bad,_,.x,rfl,rfl,rfl,hc,trivial⟩
   | k+2,hp=>simp at hp
  unfold SV
  cases hc:Lib.atoiAll l with
  | ok n=>
   refine (Tryz.strconv_Atoi_ok (bA l) (by rw [bA_size];omega) n (by rw [hd];exact hc) w).mono ?_
   rintro en w' ⟨rfl,ht⟩
   refine fin _ _ _ ?_ ⟨fun c h=>(by cases h),fun c h=>(by cases h)⟩
   rcases ht with rfl | ⟨t,rfl⟩
   ·exact Below.refl _ _
   ·exact Lib.bytesWorld_below _ _ _
  | «syntax»=>
   refine (Tryz.strconv_Atoi_syntax (bA l) (by rw [bA_size];omega) (by rw [hd];exact hc) ev w hv hev).mono ?_
   rintro en w' ⟨N,rfl,_,_,hb⟩
   exact fin _ _ _ hb ⟨fun c h=>(by cases h),fun c h=>(by cases h)⟩
  | range=>
   refine (Tryz.strconv_Atoi_range (bA l) (by rw [bA_size];omega) (by rw [hd];exact hc) er w hr her).mono ?_
   rintro en w' ⟨N,rfl,_,_,hb⟩
   rw [hd]
   exact fin _ _ _ hb ⟨fun c h=>(by cases h),fun c h=>(by cases h)⟩
end
section
open Classical
variable {W:Wld}

noncomputable def qB (x:Ix)(l:List UInt8):Option Pk:=
 match zQ l with
 | some p=>if nV p∈x.ms then some p else none
 | none=>none
theorem Gi {x:Ix}{l:List UInt8}(h:zQ l=none):qB x l=none:=by unfold qB;rw [h]
theorem No {x:Ix}{l:List UInt8}{p:Pk}(h:zQ l=some p)(hm:nV p∈x.ms):qB x l=some p:=by unfold qB;rw [h];exact if_pos hm
theorem KV {x:Ix}{l:List UInt8}{p:Pk}(h:zQ l=some p)(hm:¬nV p∈x.ms):qB x l=none:=by unfold qB;rw [h];exact if_neg hm
theorem Ap {x:Ix}{l:List UInt8}{p:Pk}(h:qB x l=some p):zQ l=some p∧nV p∈x.ms:=by
 unfold qB at h
 cases hr:zQ l with
 | none=>rw [hr] at h;cases h
 | some q=>
  rw [hr] at h
  dsimp only at h
  split at h
  ·cases h;exact ⟨rfl,by assumption⟩
  ·cases h
theorem Xg {p:Pk}(h:PkOk p):SmP p:=by
 have h1:=h.2.2.1.2
 have h2:=h.2.2.2.2
 exact ⟨by unfold lim;omega,by unfold lim;omega⟩
theorem FB {l:List UInt8}{p:Pk}(h:zQ l=some p):PkOk p∧SmP p∧textM p=l:=⟨(Ey h).1,Xg (Ey h).1,(Ey h).2⟩
theorem Sk (x:Ix)(hl:x.ms.length≤lim)(l:List UInt8)(h6:l.length≤2000000):FunOk PP W mW gK [FF x,sT l] [ePk (Uq (qB x l)),bo (qB x l).isSome]:=by
 cases hr:zQ l with
 | none=>
  rw [Gi hr]
  have hg:FunOk PP W lQ eI [sT l] [ePk VT,bo false]:=by
   have:=Ez (W:=W) l h6
   rw [hr] at this
   exact this
  refine Ac (aI ?_)
  (repeat' first
  | (refine run_ite rfl (fun h=>?_) (fun h=>?_)<;>(try simp (disch:=omega) only [zB,eqDs,aZ,Nat.reduceAdd,aA] at h)<;>(try (exfalso;omega)))
  | refine aG rfl ?_
  | refine aH rfl ?_
  | (refine bJ rfl hg rfl rfl ?_)
  | refine aB rfl ?_ ?_
  | (refine aD rfl ?_;first | refine rb ?_ | refine ri ?_ | refine bI ?_ ?_ | refine bL ?_)
  | refine aC rfl ?_)
  all_goals rfl
 | some p=>
  obtain ⟨hP,hs,rfl⟩:=FB hr
  have h:=Pl (W:=W) x hl p hs hP
  by_cases hm:nV p∈x.ms
  ·rw [No hr hm]
   rw [if_pos hm,decide_eq_true hm] at h
   exact h
  ·rw [KV hr hm]
   rw [if_neg hm,decide_eq_false hm] at h
   exact h

noncomputable def FS (t:Tu)(s:List Pk)(l:List UInt8):List Pk×Bool:=
 match (if t.has=true then qB t.x l else none) with
 | some p=>if eR s p then (s,false) else (zF s p,true)
 | none=>(s,false)
noncomputable def zW (t:Tu)(s:List Pk)(l:List UInt8):List Pk×Bool:=if Hx t∧Bo s then FS t s l else ([],false)
theorem uN {t:Tu}{s:List Pk}{l:List UInt8}(h:t.has=true→qB t.x l=none):FS t s l=(s,false):=by
 have:(if t.has=true then qB t.x l else none)=none:=by split;exact h (by assumption);rfl
 unfold FS
 rw [this]
theorem xF {t:Tu}{s:List Pk}{l:List UInt8}{p:Pk}(h1:t.has=true)(h2:qB t.x l=some p)(h3:eR s p):FS t s l=(s,false):=by
 unfold FS
 rw [if_pos h1,h2]
 exact if_pos h3
theorem FC {t:Tu}{s:List Pk}{l:List UInt8}{p:Pk}(h1:t.has=true)(h2:qB t.x l=some p)(h3:¬eR s p):FS t s l=(zF s p,true):=by
 unfold FS
 rw [if_pos h1,h2]
 exact if_neg h3
theorem KW {s:List Pk}{p:Pk}:0≤pY (Ui p.name p.ver) s s.length 0↔eR s p:=KB (Ui p.name p.ver) s
theorem Pn (t:Tu)(s:List Pk)(hl:t.x.ms.length≤lim)(hs:uQ s)(h1:s.length≤2000000)(l:List UInt8)(h6:l.length≤2000000):FunOk PP W wI kK [Nd t,cJ s,sT l] [cJ (FS t s l).1,bo (FS t s l).2]:=by
 refine LR (aI ?_)
 have hg:=Sk (W:=W) t.x hl l h6
 by_cases ht:t.has=true
 ·cases hh:qB t.x l with
  | none=>
   rw [uN fun _=>hh]
   have hg:FunOk PP W mW gK [FF t.x,sT l] [ePk VT,bo false]:=by rw [hh] at hg;exact hg
   (repeat' first
  | (refine run_ite rfl (fun h=>?_) (fun h=>?_)<;>(try simp (disch:=omega) only [zB,eqDs,aZ,Nat.reduceAdd,aA] at h)<;>(try (exfalso;omega)))
  | refine aG rfl ?_
  | refine aH rfl ?_
  | (refine bJ rfl hg rfl rfl ?_)
  | refine aB rfl ?_ ?_
  | (refine aD rfl ?_;first | refine rb ?_ | refine ri ?_ | refine bI ?_ ?_ | refine bL ?_)
  | refine aC rfl ?_)
   all_goals first
    | rfl
    | exact absurd (ht.symm.trans h) (by decide)
  | some p=>
   have hg:FunOk PP W mW gK [FF t.x,sT l] [ePk p,bo true]:=by rw [hh] at hg;exact hg
   have hp:=(FB (Ap hh).1).2.1
   by_cases h3:eR s p
   ·rw [xF ht hh h3]
    have:=KW.2 h3
    (repeat' first
  | (refine run_ite rfl (fun h=>?_) (fun h=>?_)<;>(try simp (disch:=omega) only [zB,eqDs,aZ,Nat.reduceAdd,aA] at h)<;>(try (exfalso;omega)))
  | refine aG rfl ?_
  | refine aH rfl ?_
  | refine aE rfl (Nh s hs.1 p.name p.ver) rfl ?_
  | (refine bJ rfl hg rfl rfl ?_)
  | refine aB rfl ?_ ?_
  | (refine aD rfl ?_;first | refine rb ?_ | refine ri ?_ | refine bI ?_ ?_ | refine bL ?_)
  | refine aC rfl ?_)
    all_goals first
     | rfl
     | exact absurd (ht.symm.trans h) (by decide)
   ·rw [FC ht hh h3]
    have:=(not_congr KW).2 h3
    (repeat' first
  | (refine run_ite rfl (fun h=>?_) (fun h=>?_)<;>(try simp (disch:=omega) only [zB,eqDs,aZ,Nat.reduceAdd,aA] at h)<;>(try (exfalso;omega)))
  | refine aG rfl ?_
  | refine aH rfl ?_
  | refine aE rfl (Nh s hs.1 p.name p.ver) rfl ?_
  | refine aE rfl (MI s hs h1 p hp) rfl ?_
  | (refine bJ rfl hg rfl rfl ?_)
  | refine aB rfl ?_ ?_
  | (refine aD rfl ?_;first | refine rb ?_ | refine ri ?_ | refine bI ?_ ?_ | refine bL ?_)
  | refine aC rfl ?_)
    all_goals first
     | rfl
     | exact absurd (ht.symm.trans h) (by decide)
 ·rw [uN fun h=>absurd h ht]
  (repeat' first
  | (refine run_ite rfl (fun h=>?_) (fun h=>?_)<;>(try simp (disch:=omega) only [zB,eqDs,aZ,Nat.reduceAdd,aA] at h)<;>(try (exfalso;omega)))
  | refine aG rfl ?_
  | refine aH rfl ?_
  | refine aB rfl ?_ ?_
  | (refine aD rfl ?_;first | refine rb ?_ | refine ri ?_ | refine bI ?_ ?_ | refine bL ?_)
  | refine aC rfl ?_)
  all_goals first
   | rfl
   | exact absurd h ht
theorem IJ (t:Tu)(s:List Pk)(hk:t.r.keys.length≤lim)(hl:t.x.ms.length≤lim)(hs:uQ s)(h1:s.length≤2000000)(l:List UInt8)(h6:l.length≤2000000):FunOk PP W qR gL [Nd t,cJ s,sT l] [cJ (zW t s l).1,bo (zW t s l).2]:=by
 refine HS (aI ?_)
 by_cases hc:Hx t∧Bo s
 ·rw [zW,if_pos hc]
  (repeat' first
  | (refine run_ite rfl (fun h=>?_) (fun h=>?_)<;>(try simp (disch:=omega) only [zB,eqDs,aZ,Nat.reduceAdd,aA] at h)<;>(try (exfalso;omega)))
  | refine aG rfl ?_
  | refine aH rfl ?_
  | refine aE rfl (Bx t hk hl) rfl ?_
  | refine aE rfl (Bp s hs) rfl ?_
  | refine aE rfl (MH s hs) rfl ?_
  | (refine bJ rfl (Pn t s hl hs h1 l h6) rfl rfl ?_)
  | refine aB rfl ?_ ?_
  | (refine aD rfl ?_;first | refine rb ?_ | refine ri ?_ | refine bI ?_ ?_ | refine bL ?_)
  | refine aC rfl ?_)
  all_goals first
   | rfl
   | exact absurd hc.1 h
   | exact absurd hc.2 h
 ·rw [zW,if_neg hc]
  (repeat' first
  | (refine run_ite rfl (fun h=>?_) (fun h=>?_)<;>(try simp (disch:=omega) only [zB,eqDs,aZ,Nat.reduceAdd,aA] at h)<;>(try (exfalso;omega)))
  | refine aG rfl ?_
  | refine aH rfl ?_
  | refine aE rfl (Bx t hk hl) rfl ?_
  | refine aE rfl (Bp s hs) rfl ?_
  | refine aB rfl ?_ ?_
  | (refine aD rfl ?_;first | refine rb ?_ | refine ri ?_ | refine bI ?_ ?_ | refine bL ?_)
  | refine aC rfl ?_)
  all_goals first
   | rfl
   | exact absurd ⟨by assumption,h⟩ hc

/-! The program. -/
theorem Sn (l:List UInt8):(bA l).extract (Int.toNat 1) ((bA l).size:Int).toNat=bA (l.drop 1):=by
 apply ByteArray.ext
 rw [ByteArray.data_extract,bA_size]
 have:l.tail.take (l.length - 1)=l.tail:=List.take_of_length_le (by simp)
 simp [bA,this]
theorem Uv (w:List UInt8):(Lib.cut w [58]).1.length≤w.length∧(Lib.cut w [58]).2.1.length≤w.length:=by
 unfold Lib.cut
 split
 ·simp;omega
 ·simp
theorem So {l:List UInt8}(h:(bA l).toList=(⟨#[]⟩:ByteArray).toList):l=[]:=(xE (a:=l) (b:=[])).1 h
theorem Bz (l:List UInt8)(h6:l.length≤2000000):FunOk PP vW mO eQ [sT l] [i64 (Kd l).a,i64 (Kd l).b]:=by
 refine HY (aI ?_)
 have hsz:=bA_size l
 have hne:¬(bA l).toList=(⟨#[]⟩:ByteArray).toList→l≠[]∧1≤l.length:=fun h=>by
  have:l≠[]:=fun e=>h (by rw [e];rfl)
  exact ⟨this,List.length_pos_iff.2 this⟩
 have hb0:1≤l.length→VQ (bA l) 0=((ix l 0).toNat:Int):=fun h=>Hz l 0 (by show 0<_;omega)
 (repeat' first
  | (refine run_ite rfl (fun h=>?_) (fun h=>?_)<;>(try simp (disch:=omega) only [zB,eqDs,aZ,Nat.reduceAdd,aA] at h)<;>(try (exfalso;omega)))
  | refine aG rfl ?_
  | refine aH rfl ?_
  | (refine bJ rfl (II (l.drop 1) (by rw [List.length_drop];omega)) (MV (Sn l)) rfl ?_)
  | refine aB rfl ?_ ?_
  | (refine aD rfl ?_;first | refine rb ?_ | refine ri ?_ | refine bI ?_ ?_ | refine bL ?_)
  | refine aC rfl ?_)
 ·rw [Kd,if_pos (So h)]
 ·rw [Kd,if_pos (So h)]
 ·have:=(hne h).2;omega
 ·have:=(hne h).2;omega
 ·rw [Kd,if_neg (hne h).1]
  exact aO (Sc l 0 _ (hb0 (hne h).2))
 ·rw [Kd,if_neg (hne h).1]
theorem KX (l:List UInt8)(h6:l.length≤2000000):FunOk PP vW lP eJ [sT l] [ePk (Uq (zQ l)),bo (zQ l).isSome]:=by
 refine Jc (aI ?_)
 have hsz:=bA_size l
 by_cases h30:30<l.length
 ·rw [KU h30]
  (repeat' first
  | (refine run_ite rfl (fun h=>?_) (fun h=>?_)<;>(try simp (disch:=omega) only [zB,eqDs,aZ,Nat.reduceAdd,aA] at h)<;>(try (exfalso;omega)))
  | refine aG rfl ?_
  | refine aH rfl ?_
  | refine aB rfl ?_ ?_
  | (refine aD rfl ?_;first | refine rb ?_ | refine ri ?_ | refine bI ?_ ?_ | refine bL ?_)
  | refine aC rfl ?_)
  all_goals rfl
 have hc:=Sj l h6
 have hws:=zN l [[]] (by simp)
 have hww:=Mb l [[]] 0 (fun w hw=>by simp at hw;simp [hw])
 simp only [List.length_cons,List.length_nil] at hws
 have hcd:l.foldl gB [[]]=cG l:=rfl
 rw [hcd] at hws hww
 have hT:=Xc l
 generalize cG l=ws at hc hws hww hT
 have hw0:(ix ws 0).length≤2000000:=by have:=hww _ (oX (xs:=ws) (i:=0) (by omega) (by omega));omega
 (repeat' first
  | (refine run_ite rfl (fun h=>?_) (fun h=>?_)<;>(try simp (disch:=omega) only [zB,eqDs,aZ,Nat.reduceAdd,aA] at h)<;>(try (exfalso;omega)))
  | refine aG rfl ?_
  | refine aH rfl ?_
  | refine aE rfl (hc) rfl ?_
  | (refine bJ rfl (Bz (ix ws 0) hw0) (MV (Uh ws 0 (by show 0<_;omega))) rfl ?_)
  | refine aB rfl ?_ ?_
  | (refine aD rfl ?_;first | refine rb ?_ | refine ri ?_ | refine bI ?_ ?_ | refine bL ?_)
  | refine aC rfl ?_)
 have hdr:(((ws.map eW).take ((ws.map eW).length:Int).toNat).drop (Int.toNat 1))=(ws.drop 1).map eW:=by
  rw [List.take_of_length_le (by omega),List.map_drop]
  rfl
 have hdl:((ws.drop 1).map eW).length=ws.length - 1:=by rw [List.length_map,List.length_drop]
 have hdn:(ws.drop 1).length=ws.length - 1:=List.length_drop
 have hdw:∀ w∈ws.drop 1,w.length≤2000000:=fun w hw=>by have:=hww w (List.mem_of_mem_drop hw);omega
 have hst:=fun i h=>SW ws (i:=i) h
 have hrl:=fun n=>Nl ws n
 have hr0:Gf ws 0=⟨(Kd (ix ws 0)).a,(Kd (ix ws 0)).b,[],[]⟩:=rfl
 rw [←hdn] at hT
 have hn1:(ws.drop 1).length≤2000001:=by omega
 generalize Gf ws=R at hT hst hrl hr0
 generalize ws.drop 1=vs at hdr hdl hdw hst hT hn1
 refine aU rfl (fun i:Int=>0≤i∧i≤vs.length) (fun i=>[(35,.val (i64 i)),(33,.val (XZ vs)),(34,.val (i64 vs.length)),(5,.val (ePk (R i.toNat))),(0,.val (sT l)),(2,.val [.int .i64 0,.int .i64 0,.sl [],.sl []])]) (fun i=>(vs.length - i).toNat) 0 ⟨by omega,by omega⟩ ⟨rfl,bU hdr,aO (by rw [hdr,List.length_map]),by show _=ePk (R 0);rw [hr0];rfl,rfl,rfl,trivial⟩ rfl ?_
 rintro i e ⟨h0,hN⟩
 have hri:=hrl i.toNat
 by_cases hi:i<vs.length
 ·have hcs:cS (vs.map eW) i 0=bA (ix vs i):=Uh _ i (by omega)
  have hlw:(ix vs i).length≤2000000:=hdw _ (oX h0 hi)
  have hst:=hst i h0
  generalize R i.toNat=p at hri hst
  obtain ⟨a,b,t,hcut⟩:∃ a b t,Lib.cut (ix vs i) [58]=(a,b,t):=⟨_,_,_,rfl⟩
  have hla:a.length≤2000000∧b.length≤2000000:=by
   have h1:=Uv (ix vs i)
   rw [hcut] at h1
   exact ⟨Nat.le_trans h1.1 hlw,Nat.le_trans h1.2 hlw⟩
  have hk:=Wd (ix vs i) a b t hlw hcut
  have hst':t=true→R (i+1).toNat=⟨p.name,p.ver,p.files++[⟨SV a,SV b⟩],p.deps⟩:=fun h=>by rw [hst,Ew,hcut];exact if_pos h
  have hst2:¬t=true→R (i+1).toNat=⟨p.name,p.ver,p.files,p.deps++[Kd (ix vs i)]⟩:=fun h=>by rw [hst,Ew,hcut];exact if_neg h
  (repeat' first
  | (refine run_ite rfl (fun h=>?_) (fun h=>?_)<;>(try simp (disch:=omega) only [zB,eqDs,aZ,Nat.reduceAdd,aA] at h)<;>(try (exfalso;omega)))
  | refine aG rfl ?_
  | refine aH rfl ?_
  | (refine aT rfl (Exists.intro (i+1) ⟨by omega,⟨by omega,by omega⟩,aO (aA _ (by omega)),rfl,rfl,?_,rfl,rfl,trivial⟩))
  | (refine bJ rfl hk (bI (Nf hcs) rfl) rfl ?_)
  | (refine bJ rfl (II a hla.1) rfl rfl ?_)
  | (refine bJ rfl (II b hla.2) rfl rfl ?_)
  | (refine bJ rfl (Bz (ix vs i) hlw) (MV hcs) rfl ?_)
  | refine aB rfl ?_ ?_
  | (refine aD rfl ?_;first | refine rb ?_ | refine ri ?_ | refine bI ?_ ?_ | refine bL ?_)
  | refine aC rfl ?_)
  ·rw [hst' h]
   exact Sa rfl rfl
  ·rw [hst2 (by rw [h];decide)]
   exact Sb rfl rfl
 ·have hi':i=vs.length:=by omega
  subst hi'
  have hr:R (vs.length:Int).toNat=R vs.length:=rfl
  rw [hr] at hri ⊢
  generalize R vs.length=p at hri hT
  have hs:SmP p:=⟨by unfold lim;omega,by unfold lim;omega⟩
  have h1:¬(bA (textM p)).toList=(bA l).toList→zQ l=none:=fun h=>by rw [hT,if_neg (fun h'=>h (xE.2 h'.2))]
  have h2:¬PkOk p→zQ l=none:=fun h=>by rw [hT,if_neg (fun h'=>h h'.1)]
  have h3:(bA (textM p)).toList=(bA l).toList→PkOk p→zQ l=some p:=fun h h'=>by rw [hT,if_pos ⟨h',xE.1 h⟩]
  (repeat' first
  | (refine run_ite rfl (fun h=>?_) (fun h=>?_)<;>(try simp (disch:=omega) only [zB,eqDs,aZ,Nat.reduceAdd,aA] at h)<;>(try (exfalso;omega)))
  | refine aG rfl ?_
  | refine aH rfl ?_
  | refine aE rfl (Ah p hs) rfl ?_
  | refine aE rfl (Bv p hs) rfl ?_
  | refine aB rfl ?_ ?_
  | (refine aD rfl ?_;first | refine rb ?_ | refine ri ?_ | refine bI ?_ ?_ | refine bL ?_)
  | refine aC rfl ?_)
  all_goals first
   | (rw [h2 (by assumption)];rfl)
   | (rw [h1 (by assumption)];rfl)
   | (rw [h3 (by assumption) (by assumption)];rfl)
noncomputable def FT (x:Ix)(l:List UInt8):Option Pk:=if MR x then qB x l else none
theorem IK (x:Ix)(hl:x.ms.length≤lim)(l:List UInt8)(h6:l.length≤2000000):FunOk PP vW jQ dR [FF x,sT l] [ePk (Uq (FT x l)),bo (FT x l).isSome]:=by
 refine HQ (aI ?_)
 have hg:=KX l h6
 cases hr:zQ l with
 | none=>
  have hn:FT x l=none:=by unfold FT;split;exact Gi hr;rfl
  rw [hn]
  have hg:FunOk PP vW lP eJ [sT l] [ePk VT,bo false]:=by rw [hr] at hg;exact hg
  (repeat' first
  | (refine run_ite rfl (fun h=>?_) (fun h=>?_)<;>(try simp (disch:=omega) only [zB,eqDs,aZ,Nat.reduceAdd,aA] at h)<;>(try (exfalso;omega)))
  | refine aG rfl ?_
  | refine aH rfl ?_
  | (refine bJ rfl hg rfl rfl ?_)
  | refine aB rfl ?_ ?_
  | (refine aD rfl ?_;first | refine rb ?_ | refine ri ?_ | refine bI ?_ ?_ | refine bL ?_)
  | refine aC rfl ?_)
  all_goals rfl
 | some p=>
  obtain ⟨hP,hs,ht⟩:=FB hr
  have hg:FunOk PP vW lP eJ [sT l] [ePk p,bo true]:=by rw [hr] at hg;exact hg
  have h1:¬MR x→FT x l=none:=fun h=>if_neg h
  have h2:¬nV p∈x.ms→FT x l=none:=fun h=>by unfold FT;split;exact KV hr h;rfl
  have h3:MR x→nV p∈x.ms→FT x l=some p:=fun h h'=>by rw [FT,if_pos h];exact No hr h'
  (repeat' first
  | (refine run_ite rfl (fun h=>?_) (fun h=>?_)<;>(try simp (disch:=omega) only [zB,eqDs,aZ,Nat.reduceAdd,aA] at h)<;>(try (exfalso;omega)))
  | refine aG rfl ?_
  | refine aH rfl ?_
  | refine aE rfl (Bw x hl) rfl ?_
  | refine aE rfl (PW p hs) rfl ?_
  | refine aE rfl (SJ x.ms (nV p) hl) rfl ?_
  | (refine bJ rfl hg rfl rfl ?_)
  | refine aB rfl ?_ ?_
  | (refine aD rfl ?_;first | refine rb ?_ | refine ri ?_ | refine bI ?_ ?_ | refine bL ?_)
  | refine aC rfl ?_)
  all_goals first
   | (rw [h1 (by assumption)];rfl)
   | (rw [h2 (by assumption)];rfl)
   | (rw [h3 (by assumption) (by assumption)];rfl)
theorem zX {i j:Int}(h0:0≤i)(h1:i<j)(h2:j≤1073741824):IntKind.i64.wrap ((IntKind.u64.wrap (IntKind.i64.wrap (i+j))).fdiv (2^min (Int.toNat 1) IntKind.u64.bits))=(i+j) / 2:=by
 have e1:IntKind.u64.wrap (i+j)=i+j:=by
  show (i+j) % (2^64:Int)=i+j
  omega
 have e2:(2:Int)^min (Int.toNat 1) IntKind.u64.bits=2:=by decide
 rw [aA (i+j) (by omega),e1,e2,Int.fdiv_eq_ediv_of_nonneg _ (by decide),aA _ (by omega)]
theorem Np {q p:Pk}:(if pX q.name p.name=0 then pX q.ver p.ver else pX q.name p.name)<0↔bN q p:=by
 unfold pX bN
 (repeat' split)<;>omega
theorem Uw {q p:Pk}:(if pX q.name p.name=0 then pX q.ver p.ver else pX q.name p.name)=0↔vP q p:=by
 unfold pX vP
 (repeat' split)<;>omega
theorem FD (ps:List Pk)(hl:ps.length≤lim)(p:Pk)(hs:Md ps):FunOk PP W dK bM [cJ ps,ePk p,[.fn cD [] []]] [i64 (fQ ps p),bo (decide (eR ps p))]:=by
 refine nU (aI ?_)
 unfold lim at hl
 have hc:=IH ps p
 refine aU rfl (fun x:Int×Int=>0≤x.1∧x.1≤fQ ps p∧fQ ps p≤x.2∧x.2≤ps.length) (fun x=>[(9,.val (i64 x.1)),(10,.val (i64 x.2)),(0,.val (cJ ps)),(4,.val (ePk p)),(2,.val [.fn cD [] []]),(8,.val (i64 (ps.map ePk).length))]) (fun x=>(x.2 - x.1).toNat) (0,ps.length) ⟨by dsimp only;omega,by dsimp only;omega,by dsimp only;omega,by dsimp only;omega⟩ ⟨rfl,by simp only [List.length_map];rfl,rfl,rfl,rfl,rfl,trivial⟩ rfl ?_
 rintro ⟨i,j⟩ e ⟨h0,h1,h2,h3⟩
 dsimp only at h0 h1 h2 h3 ⊢
 (repeat' first
  | (refine run_ite rfl (fun h=>?_) (fun h=>?_)<;>(try simp (disch:=omega) only [zB,eqDs,aZ,Nat.reduceAdd,aA] at h)<;>(try (exfalso;omega)))
  | refine aG rfl ?_
  | refine aH rfl ?_
  | (refine aB rfl (by rw [zX h0 (by assumption) (by omega)];exact oJ (by omega) (by omega) (fun _=>rfl)) ?_)
  | (refine aB rfl (by rw [zX h0 (by assumption) (by omega)];exact oK (by omega) (by omega) (fun _=>rfl)) ?_)
  | (refine Iy (ins':=[ePk (ix ps ((i+j) / 2)),ePk p]) rfl (xC (ix ps ((i+j) / 2)) p) (by rw [zX h0 (by assumption) (by omega)];simp (disch:=omega) only [zB,eqDs,aZ,Nat.reduceAdd,aA]) rfl ?_)
  | (refine Iy (ins':=[ePk (ix ps i),ePk p]) rfl (xC (ix ps i) p) (by simp (disch:=omega) only [zB,eqDs,aZ,Nat.reduceAdd,aA]) rfl ?_)
  | (refine aT rfl (Exists.intro ((i+j) / 2+1,j) ⟨by dsimp only;omega,⟨by dsimp only;omega,?_,by dsimp only;omega,by dsimp only;omega⟩,aO (by rw [zX h0 (by assumption) (by omega)];exact aA _ (by omega)),rfl,rfl,rfl,rfl,rfl,trivial⟩))
  | (refine aT rfl (Exists.intro (i,(i+j) / 2) ⟨by dsimp only;omega,⟨by dsimp only;omega,by dsimp only;omega,?_,by dsimp only;omega⟩,rfl,aO (zX h0 (by assumption) (by omega)),rfl,rfl,rfl,rfl,trivial⟩))
  | refine aB rfl ?_ ?_
  | (refine aD rfl ?_;first | refine rb ?_ | refine ri ?_ | refine bI ?_ ?_ | refine bL ?_)
  | refine aC rfl ?_)
 ·have:=(Cm hs (p:=p) (m:=(i+j) / 2) (by omega) (by omega)).1 (Np.1 h)
  dsimp only
  omega
 ·have h4:¬(i+j) / 2<fQ ps p:=fun h'=>h (Np.2 ((Cm hs (m:=(i+j) / 2) (by omega) (by omega)).2 h'))
  dsimp only
  omega
 ·exact aO (by omega)
 ·have hi:i=fQ ps p:=by omega
  have h5:(if pX (ix ps i).name p.name=0 then pX (ix ps i).ver p.ver else pX (ix ps i).name p.name)=0↔eR ps p:=by
   rw [Uw,Gh hs,←hi]
   exact ⟨fun h'=>⟨by omega,h'⟩,fun h'=>h'.2⟩
  show [D.bool _]=[D.bool _]
  by_cases ht:eR ps p
  ·rw [decide_eq_true ht,beq_iff_eq.2 (h5.2 ht)]
  ·rw [decide_eq_false ht,beq_eq_false_iff_ne.2 (fun h'=>ht (h5.1 h'))]
 ·exact aO (by omega)
 ·have:¬eR ps p:=fun h'=>by have:=((Gh hs).1 h').1;omega
  rw [decide_eq_false this]
theorem We (ps:List Pk)(hl:ps.length≤lim)(p:Pk)(hp:SmP p)(hs:Md ps):FunOk PP W HO pV [cJ ps,ePk p] [cJ (if eR ps p then ps else zF ps p),bo (decide (¬eR ps p))]:=by
 refine Ox (aI ?_)
 have hc:=IH ps p
 by_cases ht:eR ps p
 ·rw [if_pos ht,decide_eq_false (fun h=>h ht)]
  have h:=FD (W:=W) ps hl p hs
  rw [decide_eq_true ht] at h
  (repeat' first
  | (refine run_ite rfl (fun h=>?_) (fun h=>?_)<;>(try simp (disch:=omega) only [zB,eqDs,aZ,Nat.reduceAdd,aA] at h)<;>(try (exfalso;omega)))
  | refine aG rfl ?_
  | refine aH rfl ?_
  | (refine bJ rfl h rfl rfl ?_)
  | refine aB rfl ?_ ?_
  | (refine aD rfl ?_;first | refine rb ?_ | refine ri ?_ | refine bI ?_ ?_ | refine bL ?_)
  | refine aC rfl ?_)
  all_goals rfl
 ·rw [if_neg ht,decide_eq_true ht,An hs ht]
  have h:=FD (W:=W) ps hl p hs
  rw [decide_eq_false ht] at h
  (repeat' first
  | (refine run_ite rfl (fun h=>?_) (fun h=>?_)<;>(try simp (disch:=omega) only [zB,eqDs,aZ,Nat.reduceAdd,aA] at h)<;>(try (exfalso;omega)))
  | refine aG rfl ?_
  | refine aH rfl ?_
  | refine aE rfl (Bu p hp) rfl ?_
  | refine aE rfl (Se ps p (fQ ps p) hc hl) rfl ?_
  | (refine bJ rfl h rfl rfl ?_)
  | refine aB rfl ?_ ?_
  | (refine aD rfl ?_;first | refine rb ?_ | refine ri ?_ | refine bI ?_ ?_ | refine bL ?_)
  | refine aC rfl ?_)
  all_goals rfl
theorem KY (t:Tu)(s:List Pk)(hk:t.r.keys.length≤lim)(hl:t.x.ms.length≤lim)(hs:uQ s)(l:List UInt8)(h6:l.length≤2000000):FunOk PP vW mL eE [Nd t,cJ s,sT l] [cJ (zW t s l).1,bo (zW t s l).2]:=by
 refine Eh (aI ?_)
 by_cases hc:Hx t∧Bo s
 ·rw [zW,if_pos hc]
  have hsr:=Nn hc.2
  have hg:=IK t.x hl l h6
  by_cases ht:t.has=true
  ·have hi:FT t.x l=qB t.x l:=if_pos (by have:=hc.1.2;rw [if_pos ht] at this;exact this)
   rw [hi] at hg
   cases hh:qB t.x l with
   | none=>
    rw [uN fun _=>hh]
    have hg:FunOk PP vW jQ dR [FF t.x,sT l] [ePk VT,bo false]:=by rw [hh] at hg;exact hg
    (repeat' first
  | (refine run_ite rfl (fun h=>?_) (fun h=>?_)<;>(try simp (disch:=omega) only [zB,eqDs,aZ,Nat.reduceAdd,aA] at h)<;>(try (exfalso;omega)))
  | refine aG rfl ?_
  | refine aH rfl ?_
  | refine aE rfl (oP t hk hl) rfl ?_
  | refine aE rfl (oO s hs) rfl ?_
  | refine aE rfl (En s hs) rfl ?_
  | (refine bJ rfl hg rfl rfl ?_)
  | refine aB rfl ?_ ?_
  | (refine aD rfl ?_;first | refine rb ?_ | refine ri ?_ | refine bI ?_ ?_ | refine bL ?_)
  | refine aC rfl ?_)
    all_goals first
     | rfl
     | exact absurd hc.1 h
     | exact absurd hc.2 h
     | exact absurd (ht.symm.trans h) (by decide)
   | some p=>
    have hg:FunOk PP vW jQ dR [FF t.x,sT l] [ePk p,bo true]:=by rw [hh] at hg;exact hg
    have hp:=(FB (Ap hh).1).2.1
    have ha:FS t s l=(if eR s p then s else zF s p,decide (¬eR s p)):=by
     by_cases h3:eR s p
     ·rw [xF ht hh h3,if_pos h3,decide_eq_false (fun h=>h h3)]
     ·rw [FC ht hh h3,if_neg h3,decide_eq_true h3]
    rw [ha]
    (repeat' first
  | (refine run_ite rfl (fun h=>?_) (fun h=>?_)<;>(try simp (disch:=omega) only [zB,eqDs,aZ,Nat.reduceAdd,aA] at h)<;>(try (exfalso;omega)))
  | refine aG rfl ?_
  | refine aH rfl ?_
  | refine aE rfl (oP t hk hl) rfl ?_
  | refine aE rfl (oO s hs) rfl ?_
  | refine aE rfl (En s hs) rfl ?_
  | (refine bJ rfl hg rfl rfl ?_)
  | (refine bJ rfl (We s hs.1 p hp hsr) rfl rfl ?_)
  | refine aB rfl ?_ ?_
  | (refine aD rfl ?_;first | refine rb ?_ | refine ri ?_ | refine bI ?_ ?_ | refine bL ?_)
  | refine aC rfl ?_)
    all_goals first
     | rfl
     | exact absurd hc.1 h
     | exact absurd hc.2 h
     | exact absurd (ht.symm.trans h) (by decide)
  ·rw [uN fun h=>absurd h ht]
   (repeat' first
  | (refine run_ite rfl (fun h=>?_) (fun h=>?_)<;>(try simp (disch:=omega) only [zB,eqDs,aZ,Nat.reduceAdd,aA] at h)<;>(try (exfalso;omega)))
  | refine aG rfl ?_
  | refine aH rfl ?_
  | refine aE rfl (oP t hk hl) rfl ?_
  | refine aE rfl (oO s hs) rfl ?_
  | refine aE rfl (En s hs) rfl ?_
  | (refine bJ rfl hg rfl rfl ?_)
  | refine aB rfl ?_ ?_
  | (refine aD rfl ?_;first | refine rb ?_ | refine ri ?_ | refine bI ?_ ?_ | refine bL ?_)
  | refine aC rfl ?_)
   all_goals first
    | rfl
    | exact absurd hc.1 h
    | exact absurd hc.2 h
    | exact absurd (by assumption) ht
 ·rw [zW,if_neg hc]
  (repeat' first
  | (refine run_ite rfl (fun h=>?_) (fun h=>?_)<;>(try simp (disch:=omega) only [zB,eqDs,aZ,Nat.reduceAdd,aA] at h)<;>(try (exfalso;omega)))
  | refine aG rfl ?_
  | refine aH rfl ?_
  | refine aE rfl (oP t hk hl) rfl ?_
  | refine aE rfl (oO s hs) rfl ?_
  | refine aB rfl ?_ ?_
  | (refine aD rfl ?_;first | refine rb ?_ | refine ri ?_ | refine bI ?_ ?_ | refine bL ?_)
  | refine aC rfl ?_)
  all_goals first
   | rfl
   | exact absurd ⟨by assumption,h⟩ hc
end
section
open Classical

theorem KZ (a b:List Pk):gT (a++b)=gT a+gT b:=by
 unfold gT fA
 rw [List.map_append,List.sum_append,List.length_append]
 omega
theorem Po (p:Pk)(b:List Pk):gT (p::b)=1+cP p+gT b:=by
 unfold gT fA
 rw [List.map_cons,List.sum_cons,List.length_cons]
 omega
theorem Sp (t:Tu)(s:List Pk)(l:List UInt8):gT (zW t s l).1≤gT s+5:=by
 have h0:=NZ s
 have hz:gT ([]:List Pk)=0:=rfl
 unfold zW
 split
 ·rename_i hc
  by_cases ht:t.has=true
  ·cases hh:qB t.x l with
   | none=>rw [uN fun _=>hh];show gT s≤_;omega
   | some p=>
    by_cases h3:eR s p
    ·rw [xF ht hh h3];show gT s≤_;omega
    ·rw [FC ht hh h3]
     show gT (zF s p)≤_
     have hP:=(FB (Ap hh).1).1
     have h1:(p.files.length:Int)≤2:=hP.2.2.1.2
     have h2:(p.deps.length:Int)≤2:=hP.2.2.2.2
     have e:gT s=gT (s.take (fQ s p))+gT (s.drop (fQ s p)):=by rw [←KZ,List.take_append_drop]
     rw [An (Nn hc.2) h3,Wc,KZ,Po,e]
     unfold cP
     omega
  ·rw [uN fun h=>absurd h ht];show gT s≤_;omega
 ·show gT []≤_;omega
theorem zY {W:Wld}(l:List Pk)(h:uQ l):FunOk PP W iB dY [cJ l,cJ l] [bo true]:=by simpa using PI (W:=W) l l h

set_option maxHeartbeats 2000000 in
theorem Aq (t:Tu)(s:List Pk)(l:List UInt8)(h1:(t.r.keys.length:Int)≤mx)(h2:(t.x.ms.length:Int)≤mx)(h3:UV s):FunOk PP vW n_l_FnExactStoreAdd fJ [Nd t,cJ s,sT l] [bo true]:=by
 refine rT (aI ?_)
 have hsz:=bA_size l
 by_cases c0:1048576<l.length
 ·(repeat' first
  | (refine run_ite rfl (fun h=>?_) (fun h=>?_)<;>(try simp (disch:=omega) only [zB,eqDs,aZ,Nat.reduceAdd,aA] at h)<;>(try (exfalso;omega)))
  | refine aG rfl ?_
  | refine aH rfl ?_
  | refine aB rfl ?_ ?_
  | (refine aD rfl ?_;first | refine rb ?_ | refine ri ?_ | refine bI ?_ ?_ | refine bL ?_)
  | refine aC rfl ?_)
  rfl
 have n2:=NZ s
 have f1:=MY (W:=vW) t 1048576 (by omega) h1 h2
 by_cases c1:1048576<(t.r.keys.length:Int)+t.x.ms.length
 ·rw [cY c1] at f1
  (repeat' first
  | (refine run_ite rfl (fun h=>?_) (fun h=>?_)<;>(try simp (disch:=omega) only [zB,eqDs,aZ,Nat.reduceAdd,aA] at h)<;>(try (exfalso;omega)))
  | refine aG rfl ?_
  | refine aH rfl ?_
  | refine aE rfl (f1) rfl ?_
  | refine aB rfl ?_ ?_
  | (refine aD rfl ?_;first | refine rb ?_ | refine ri ?_ | refine bI ?_ ?_ | refine bL ?_)
  | refine aC rfl ?_)
  rfl
 rw [dZ (by omega)] at f1
 have f2:=PE (W:=vW) s (1048576 - (t.r.keys.length+t.x.ms.length)) (by omega) h3
 by_cases c2:1048576 - ((t.r.keys.length:Int)+t.x.ms.length)<gT s
 ·rw [cY c2] at f2
  (repeat' first
  | (refine run_ite rfl (fun h=>?_) (fun h=>?_)<;>(try simp (disch:=omega) only [zB,eqDs,aZ,Nat.reduceAdd,aA] at h)<;>(try (exfalso;omega)))
  | refine aG rfl ?_
  | refine aH rfl ?_
  | refine aE rfl (f1) rfl ?_
  | refine aE rfl (f2) rfl ?_
  | refine aB rfl ?_ ?_
  | (refine aD rfl ?_;first | refine rb ?_ | refine ri ?_ | refine bI ?_ ?_ | refine bL ?_)
  | refine aC rfl ?_)
  rfl
 rw [dZ (by omega)] at f2
 have hk:t.r.keys.length≤lim:=by unfold lim;omega
 have hl:t.x.ms.length≤lim:=by unfold lim;omega
 have hS:uQ s:=Nb (by omega)
 have hsl:s.length≤2000000:=by
  have:(s.length:Int)≤gT s:=by have:=mP Br s;unfold gT;omega
  omega
 have hz:=Sp t s l
 have hR:uQ (zW t s l).1:=Nb (by omega)
 have k2:=Eo s
 have k3:=Eo (zW t s l).1
 have g1:=IJ (W:=vW) t s hk hl hS hsl l (by omega)
 have g2:=KY t s hk hl hS l (by omega)
 generalize (zW t s l).1=R at *
 generalize (zW t s l).2=B at *
 have e1:=zY (W:=vW) R hR
 have e2:=zY (W:=vW) s hS
 have e3:=Pd (W:=vW) t hk hl
 have n4:=zJ s
 have n5:=zJ R
 have hct:KT t=t.r.keys.length+3*t.x.ms.length:=rfl
 have m1:=Pf (W:=vW) t 1 (by omega) (by omega)
 have m2:=Bt (W:=vW) s (1+KT t) (by omega) (by omega)
 have m3:=Bt (W:=vW) R 1 (by omega) (by omega)
 have q1:=KH (W:=vW) (mA R 1) 1 (by omega) (by rw [Bs];omega) (PM R 1)
 rw [Bs] at q1
 (repeat' first
  | (refine run_ite rfl (fun h=>?_) (fun h=>?_)<;>(try simp (disch:=omega) only [zB,eqDs,aZ,Nat.reduceAdd,aA] at h)<;>(try (exfalso;omega)))
  | refine aG rfl ?_
  | refine aH rfl ?_
  | refine aE rfl (f1) rfl ?_
  | refine aE rfl (f2) rfl ?_
  | refine aE rfl (Pb t hk hl) rfl ?_
  | refine aE rfl (Rp s hS) rfl ?_
  | (refine bJ rfl g1 rfl rfl ?_)
  | (refine bJ rfl g2 rfl rfl ?_)
  | refine aE rfl (e1) rfl ?_
  | refine aE rfl (e2) rfl ?_
  | refine aE rfl (e3) rfl ?_
  | refine aE rfl (q1) rfl ?_
  | (refine wB rfl rfl m1 rfl rfl rfl rfl ?_)
  | (refine wB rfl rfl m2 rfl rfl rfl rfl ?_)
  | (refine wB rfl rfl m3 rfl rfl rfl rfl ?_)
  | refine aB rfl ?_ ?_
  | (refine aD rfl ?_;first | refine rb ?_ | refine ri ?_ | refine bI ?_ ?_ | refine bL ?_)
  | refine aC rfl ?_)
 all_goals first | rfl | exact absurd trivial (by assumption) | (trace_state;sorry)
end
section
open Go.RowKit

def YJ:List UInt8:=[105,110,118,97,108,105,100,32,115,121,110,116,97,120]
def YK:List UInt8:=[118,97,108,117,101,32,111,117,116,32,111,102,32,114,97,110,103,101]
def Wf (t:List UInt8):DataW Unit:= .iface "*errors.errorString" (.ptr (.agg [.lit (.string t)]))
theorem Ka:"*" ++"errors.errorString" ="*errors.errorString" :=by decide
theorem Ux (u:TypeId)(h:Tryz.prog.typeName? 3 u=some "*errors.errorString"):u=217:=
 typeName_ptr_named (nm:="errors.errorString") (by rw [Ka];kernel_rfl) (by kernel_rfl) (by decide) u (by rw [Ka];exact h)
theorem Sq {laid:List (String×DataW Unit)}{W:World}{n:String}{t:List UInt8}{g:Nat}(hL:laidMetH Tryz.prog laid W)(hf:(laid.filter fun x=>x.2.handleName?.isNone).filter (fun x=>x.1==n)=[(n,Wf t)])
  (hg:Tryz.prog.globalNamed n=some g)(ht:(Tryz.prog.globals[g]?).map (·.type)=some 92):∃ v,W.cell? ⟨g,0,none⟩=some v∧Wu v:=by
 exact UO hL hf hg ht Tryz.underlying92 Ux Tryz.underlying217 Tryz.underlying219 rfl rfl Tryz.underlying9 (by kernel_rfl) (by kernel_rfl)
theorem Wg {laid:List (String×DataW Unit)}{W:World}(hL:laidMetH Tryz.prog laid W)(hsh:W.ShapedOpen Tryz.prog)
  (h1:(laid.filter fun x=>x.2.handleName?.isNone).filter (fun x=>x.1=="strconv.ErrSyntax")=[("strconv.ErrSyntax",Wf YJ)])
  (h2:(laid.filter fun x=>x.2.handleName?.isNone).filter (fun x=>x.1=="strconv.ErrRange")=[("strconv.ErrRange",Wf YK)]):vW.P W:=
 Xe (cell_of_shapedOpen_int (t:=3) (zero:=#[.int .i64 0]) hsh (of_decide_eq_true (by kernel_rfl)) (by kernel_rfl) rfl (by kernel_rfl) (by kernel_rfl) (by kernel_rfl))
  (Sq hL h1 (by kernel_rfl) (by kernel_rfl)) (Sq hL h2 (by kernel_rfl) (by kernel_rfl))
end
end V
end Go.Proofs.YtmgpamcpdblckaaGreatDoor
