/-
Part 6 of the proof of the claimed statement (its last part holds the theorem, and says what is proved). Conditions: none.
-/
import Derived.Test.YtgekfemnjphmbaaGreatM5
set_option linter.all false
set_option maxRecDepth 100000
/-
Plain proofs: what the laws copy.
-/
namespace Go.Proofs.YtgekfemnjphmbaaGreat
namespace V
section
open Classical
variable {W:Wld}

theorem zY (l:List Int)(hl:l.length≤lim):FunOk PP W kV gF [uH l] [uH l]:=by
  refine Ox (aI ?_)
  unfold lim at hl
  (repeat' first
    | (refine run_ite rfl (fun h=>?_) (fun h=>?_)<;>(try simp (disch:=omega) only [zB,eqDs,aW,Nat.reduceAdd,aC] at h)<;>(try (exfalso;omega)))
    | refine aF rfl ?_
    | refine aG rfl ?_
    | refine aB rfl ?_ ?_
    | (refine aE rfl ?_;first | refine rb ?_ | refine ri ?_ | refine bC ?_ ?_ | refine bB ?_)
    | refine aD rfl ?_)
  · simp [lim];omega
  refine aP rfl (fun x:Int×List Int=>0≤x.1∧x.1≤l.length∧x.2.length=l.length∧lL x.1 (fun j=>ix x.2 j=ix l j)) (fun x=>[(4,.val (i64 x.1)),(3,.val (uH x.2)),(0,.val (uH l))]) (fun x=>(l.length - x.1).toNat) (0,List.replicate l.length 0) ⟨by omega,by simp,by simp,aZ _⟩ ⟨rfl,gY (by simp),rfl,trivial⟩ rfl ?_
  rintro ⟨i,ys⟩ e ⟨h0,hN,hy,hP⟩
  dsimp only at h0 hN hy hP ⊢
  (repeat' first
    | (refine run_ite rfl (fun h=>?_) (fun h=>?_)<;>(try simp (disch:=omega) only [zB,eqDs,aW,Nat.reduceAdd,aC] at h)<;>(try (exfalso;omega)))
    | refine aF rfl ?_
    | refine aG rfl ?_
    | (refine aN rfl (Exists.intro (i+1,ys.set i.toNat (ix l i)) ⟨by dsimp only;omega,⟨by dsimp only;omega,by dsimp only;omega,by simpa using hy,wR h0 (by omega) hP⟩,aQ (aC _ (by omega)),gY (by rw [aB4 h0 (by omega),z11]),rfl,trivial⟩))
    | refine aB rfl ?_ ?_
    | (refine aE rfl ?_;first | refine rb ?_ | refine ri ?_ | refine bC ?_ ?_ | refine bB ?_)
    | refine aD rfl ?_)
  · exact gY (by rw [jS hy (cE hP (by omega))])
theorem Wf (p:P2):FunOk PP W BN rW [eP2 p] [eP2 p]:=by
  refine Pw (aI ?_)
  (repeat' first
    | (refine run_ite rfl (fun h=>?_) (fun h=>?_)<;>(try simp (disch:=omega) only [zB,eqDs,aW,Nat.reduceAdd,aC] at h)<;>(try (exfalso;omega)))
    | refine aF rfl ?_
    | refine aG rfl ?_
    | refine aB rfl ?_ ?_
    | (refine aE rfl ?_;first | refine rb ?_ | refine ri ?_ | refine bC ?_ ?_ | refine bB ?_)
    | refine aD rfl ?_)
  rfl
theorem Tl (l:List P2)(hl:l.length≤lim):FunOk PP W yV oZ [hM l] [hM l]:=by
  refine NF (aI ?_)
  unfold lim at hl
  (repeat' first
    | (refine run_ite rfl (fun h=>?_) (fun h=>?_)<;>(try simp (disch:=omega) only [zB,eqDs,aW,Nat.reduceAdd,aC] at h)<;>(try (exfalso;omega)))
    | refine aF rfl ?_
    | refine aG rfl ?_
    | refine aB rfl ?_ ?_
    | (refine aE rfl ?_;first | refine rb ?_ | refine ri ?_ | refine bC ?_ ?_ | refine bB ?_)
    | refine aD rfl ?_)
  · simp [lim];omega
  refine aP rfl (fun x:Int×List P2=>0≤x.1∧x.1≤l.length∧x.2.length=l.length∧lL x.1 (fun j=>ix x.2 j=ix l j)) (fun x=>[(4,.val (i64 x.1)),(3,.val (hM x.2)),(0,.val (hM l))]) (fun x=>(l.length - x.1).toNat) (0,List.replicate l.length ⟨0,0⟩) ⟨by omega,by simp,by simp,aZ _⟩ ⟨rfl,gY (by simp),rfl,trivial⟩ rfl ?_
  rintro ⟨i,ys⟩ e ⟨h0,hN,hy,hP⟩
  dsimp only at h0 hN hy hP ⊢
  (repeat' first
    | (refine run_ite rfl (fun h=>?_) (fun h=>?_)<;>(try simp (disch:=omega) only [zB,eqDs,aW,Nat.reduceAdd,aC] at h)<;>(try (exfalso;omega)))
    | refine aF rfl ?_
    | refine aG rfl ?_
    | refine cF rfl (Wf (ix l i)) rfl ?_
    | (refine vG rfl (DV (sz:=2) h0 (by omega) (by omega) (fun _=>rfl) (Nat.le_of_ble_eq_true rfl)) (gY (Rc h0 (by omega))) ?_)
    | (refine aN rfl (Exists.intro (i+1,ys.set i.toNat (ix l i)) ⟨by dsimp only;omega,⟨by dsimp only;omega,by dsimp only;omega,by simpa using hy,wR h0 (by omega) hP⟩,aQ (aC _ (by omega)),rfl,rfl,trivial⟩))
    | refine aB rfl ?_ ?_
    | (refine aE rfl ?_;first | refine rb ?_ | refine ri ?_ | refine bC ?_ ?_ | refine bB ?_)
    | refine aD rfl ?_)
  · exact gY (by rw [jS hy (cE hP (by omega))])
theorem Ys (p:P2):FunOk PP W DP vB [eP2 p] [eP2 p]:=by
  refine Sr (aI ?_)
  (repeat' first
    | (refine run_ite rfl (fun h=>?_) (fun h=>?_)<;>(try simp (disch:=omega) only [zB,eqDs,aW,Nat.reduceAdd,aC] at h)<;>(try (exfalso;omega)))
    | refine aF rfl ?_
    | refine aG rfl ?_
    | refine aB rfl ?_ ?_
    | (refine aE rfl ?_;first | refine rb ?_ | refine ri ?_ | refine bC ?_ ?_ | refine bB ?_)
    | refine aD rfl ?_)
  rfl
theorem Wg (l:List P2)(hl:l.length≤lim):FunOk PP W BK rT [hM l] [hM l]:=by
  refine Pj (aI ?_)
  unfold lim at hl
  (repeat' first
    | (refine run_ite rfl (fun h=>?_) (fun h=>?_)<;>(try simp (disch:=omega) only [zB,eqDs,aW,Nat.reduceAdd,aC] at h)<;>(try (exfalso;omega)))
    | refine aF rfl ?_
    | refine aG rfl ?_
    | refine aB rfl ?_ ?_
    | (refine aE rfl ?_;first | refine rb ?_ | refine ri ?_ | refine bC ?_ ?_ | refine bB ?_)
    | refine aD rfl ?_)
  · simp [lim];omega
  refine aP rfl (fun x:Int×List P2=>0≤x.1∧x.1≤l.length∧x.2.length=l.length∧lL x.1 (fun j=>ix x.2 j=ix l j)) (fun x=>[(4,.val (i64 x.1)),(3,.val (hM x.2)),(0,.val (hM l))]) (fun x=>(l.length - x.1).toNat) (0,List.replicate l.length ⟨0,0⟩) ⟨by omega,by simp,by simp,aZ _⟩ ⟨rfl,gY (by simp),rfl,trivial⟩ rfl ?_
  rintro ⟨i,ys⟩ e ⟨h0,hN,hy,hP⟩
  dsimp only at h0 hN hy hP ⊢
  (repeat' first
    | (refine run_ite rfl (fun h=>?_) (fun h=>?_)<;>(try simp (disch:=omega) only [zB,eqDs,aW,Nat.reduceAdd,aC] at h)<;>(try (exfalso;omega)))
    | refine aF rfl ?_
    | refine aG rfl ?_
    | refine cF rfl (Ys (ix l i)) rfl ?_
    | (refine vG rfl (DV (sz:=2) h0 (by omega) (by omega) (fun _=>rfl) (Nat.le_of_ble_eq_true rfl)) (gY (Rc h0 (by omega))) ?_)
    | (refine aN rfl (Exists.intro (i+1,ys.set i.toNat (ix l i)) ⟨by dsimp only;omega,⟨by dsimp only;omega,by dsimp only;omega,by simpa using hy,wR h0 (by omega) hP⟩,aQ (aC _ (by omega)),rfl,rfl,trivial⟩))
    | refine aB rfl ?_ ?_
    | (refine aE rfl ?_;first | refine rb ?_ | refine ri ?_ | refine bC ?_ ?_ | refine bB ?_)
    | refine aD rfl ?_)
  · exact gY (by rw [jS hy (cE hP (by omega))])
theorem Yt (p:Pk)(hs:SmP p):FunOk PP W DL uX [ePk p] [ePk p]:=by
  refine Sa (aI ?_)
  obtain ⟨h1,h2⟩:=hs
  (repeat' first
    | (refine run_ite rfl (fun h=>?_) (fun h=>?_)<;>(try simp (disch:=omega) only [zB,eqDs,aW,Nat.reduceAdd,aC] at h)<;>(try (exfalso;omega)))
    | refine aF rfl ?_
    | refine aG rfl ?_
    | refine aA rfl (Tl p.files h1) rfl ?_
    | refine aA rfl (Wg p.deps h2) rfl ?_
    | refine aB rfl ?_ ?_
    | (refine aE rfl ?_;first | refine rb ?_ | refine ri ?_ | refine bC ?_ ?_ | refine bB ?_)
    | refine aD rfl ?_)
  rfl
theorem Cj (l:List Pk)(hs:SmPs l):FunOk PP W nJ iP [bY l] [bY l]:=by
  refine Ov (aI ?_)
  have hl:=hs.1
  unfold lim at hl
  (repeat' first
    | (refine run_ite rfl (fun h=>?_) (fun h=>?_)<;>(try simp (disch:=omega) only [zB,eqDs,aW,Nat.reduceAdd,aC] at h)<;>(try (exfalso;omega)))
    | refine aF rfl ?_
    | refine aG rfl ?_
    | refine aB rfl ?_ ?_
    | (refine aE rfl ?_;first | refine rb ?_ | refine ri ?_ | refine bC ?_ ?_ | refine bB ?_)
    | refine aD rfl ?_)
  · simp [lim];omega
  refine aP rfl (fun x:Int×List Pk=>0≤x.1∧x.1≤l.length∧x.2.length=l.length∧lL x.1 (fun j=>ix x.2 j=ix l j)) (fun x=>[(4,.val (i64 x.1)),(3,.val (bY x.2)),(0,.val (bY l))]) (fun x=>(l.length - x.1).toNat) (0,List.replicate l.length ⟨0,0,[],[]⟩) ⟨by omega,by simp,by simp,aZ _⟩ ⟨rfl,gY (by simp),rfl,trivial⟩ rfl ?_
  rintro ⟨i,ys⟩ e ⟨h0,hN,hy,hP⟩
  dsimp only at h0 hN hy hP ⊢
  (repeat' first
    | (refine run_ite rfl (fun h=>?_) (fun h=>?_)<;>(try simp (disch:=omega) only [zB,eqDs,aW,Nat.reduceAdd,aC] at h)<;>(try (exfalso;omega)))
    | refine aF rfl ?_
    | refine aG rfl ?_
    | refine cF rfl (Yt (ix l i) (qE hs h0 (by omega))) rfl ?_
    | (refine vG rfl (DV (sz:=4) h0 (by omega) (by omega) (fun _=>rfl) (Nat.le_of_ble_eq_true rfl)) (gY (YU h0 (by omega))) ?_)
    | (refine aN rfl (Exists.intro (i+1,ys.set i.toNat (ix l i)) ⟨by dsimp only;omega,⟨by dsimp only;omega,by dsimp only;omega,by simpa using hy,wR h0 (by omega) hP⟩,aQ (aC _ (by omega)),rfl,rfl,trivial⟩))
    | refine aB rfl ?_ ?_
    | (refine aE rfl ?_;first | refine rb ?_ | refine ri ?_ | refine bC ?_ ?_ | refine bB ?_)
    | refine aD rfl ?_)
  · exact gY (by rw [jS hy (cE hP (by omega))])
theorem Nn (r:Rt)(hl:r.keys.length≤lim):FunOk PP W wH nP [Jk r] [Jk r]:=by
  refine PZ (aI ?_)
  (repeat' first
    | (refine run_ite rfl (fun h=>?_) (fun h=>?_)<;>(try simp (disch:=omega) only [zB,eqDs,aW,Nat.reduceAdd,aC] at h)<;>(try (exfalso;omega)))
    | refine aF rfl ?_
    | refine aG rfl ?_
    | refine aA rfl (zY r.keys hl) rfl ?_
    | refine aB rfl ?_ ?_
    | (refine aE rfl ?_;first | refine rb ?_ | refine ri ?_ | refine bC ?_ ?_ | refine bB ?_)
    | refine aD rfl ?_)
  rfl
theorem Wh (m:Mt):FunOk PP W BQ rZ [eMt m] [eMt m]:=by
  refine QC (aI ?_)
  (repeat' first
    | (refine run_ite rfl (fun h=>?_) (fun h=>?_)<;>(try simp (disch:=omega) only [zB,eqDs,aW,Nat.reduceAdd,aC] at h)<;>(try (exfalso;omega)))
    | refine aF rfl ?_
    | refine aG rfl ?_
    | refine aB rfl ?_ ?_
    | (refine aE rfl ?_;first | refine rb ?_ | refine ri ?_ | refine bC ?_ ?_ | refine bB ?_)
    | refine aD rfl ?_)
  rfl
theorem Tm (l:List Mt)(hl:l.length≤lim):FunOk PP W yY pC [AR l] [AR l]:=by
  refine NL (aI ?_)
  unfold lim at hl
  (repeat' first
    | (refine run_ite rfl (fun h=>?_) (fun h=>?_)<;>(try simp (disch:=omega) only [zB,eqDs,aW,Nat.reduceAdd,aC] at h)<;>(try (exfalso;omega)))
    | refine aF rfl ?_
    | refine aG rfl ?_
    | refine aB rfl ?_ ?_
    | (refine aE rfl ?_;first | refine rb ?_ | refine ri ?_ | refine bC ?_ ?_ | refine bB ?_)
    | refine aD rfl ?_)
  · simp [lim];omega
  refine aP rfl (fun x:Int×List Mt=>0≤x.1∧x.1≤l.length∧x.2.length=l.length∧lL x.1 (fun j=>ix x.2 j=ix l j)) (fun x=>[(4,.val (i64 x.1)),(3,.val (AR x.2)),(0,.val (AR l))]) (fun x=>(l.length - x.1).toNat) (0,List.replicate l.length ⟨0,0,0⟩) ⟨by omega,by simp,by simp,aZ _⟩ ⟨rfl,gY (by simp),rfl,trivial⟩ rfl ?_
  rintro ⟨i,ys⟩ e ⟨h0,hN,hy,hP⟩
  dsimp only at h0 hN hy hP ⊢
  (repeat' first
    | (refine run_ite rfl (fun h=>?_) (fun h=>?_)<;>(try simp (disch:=omega) only [zB,eqDs,aW,Nat.reduceAdd,aC] at h)<;>(try (exfalso;omega)))
    | refine aF rfl ?_
    | refine aG rfl ?_
    | refine cF rfl (Wh (ix l i)) rfl ?_
    | (refine vG rfl (DV (sz:=3) h0 (by omega) (by omega) (fun _=>rfl) (Nat.le_of_ble_eq_true rfl)) (gY (Ye h0 (by omega))) ?_)
    | (refine aN rfl (Exists.intro (i+1,ys.set i.toNat (ix l i)) ⟨by dsimp only;omega,⟨by dsimp only;omega,by dsimp only;omega,by simpa using hy,wR h0 (by omega) hP⟩,aQ (aC _ (by omega)),rfl,rfl,trivial⟩))
    | refine aB rfl ?_ ?_
    | (refine aE rfl ?_;first | refine rb ?_ | refine ri ?_ | refine bC ?_ ?_ | refine bB ?_)
    | refine aD rfl ?_)
  · exact gY (by rw [jS hy (cE hP (by omega))])
theorem Js (x:Ix)(hl:x.ms.length≤lim):FunOk PP W tF lP [Kx x] [Kx x]:=by
  refine Mx (aI ?_)
  (repeat' first
    | (refine run_ite rfl (fun h=>?_) (fun h=>?_)<;>(try simp (disch:=omega) only [zB,eqDs,aW,Nat.reduceAdd,aC] at h)<;>(try (exfalso;omega)))
    | refine aF rfl ?_
    | refine aG rfl ?_
    | refine aA rfl (Tm x.ms hl) rfl ?_
    | refine aB rfl ?_ ?_
    | (refine aE rfl ?_;first | refine rb ?_ | refine ri ?_ | refine bC ?_ ?_ | refine bB ?_)
    | refine aD rfl ?_)
  rfl
theorem Tn (t:Tu)(hk:t.r.keys.length≤lim)(hl:t.x.ms.length≤lim):FunOk PP W yQ oU [ZU t] [ZU t]:=by
  refine Mg (aI ?_)
  (repeat' first
    | (refine run_ite rfl (fun h=>?_) (fun h=>?_)<;>(try simp (disch:=omega) only [zB,eqDs,aW,Nat.reduceAdd,aC] at h)<;>(try (exfalso;omega)))
    | refine aF rfl ?_
    | refine aG rfl ?_
    | refine aA rfl (Nn t.r hk) rfl ?_
    | refine aA rfl (Js t.x hl) rfl ?_
    | refine aB rfl ?_ ?_
    | (refine aE rfl ?_;first | refine rb ?_ | refine ri ?_ | refine bC ?_ ?_ | refine bB ?_)
    | refine aD rfl ?_)
  rfl
theorem Wi (d:Dk)(hs:SmD d):FunOk PP W BG rP [Wv d] [Wv d]:=by
  refine Oz (aI ?_)
  (repeat' first
    | (refine run_ite rfl (fun h=>?_) (fun h=>?_)<;>(try simp (disch:=omega) only [zB,eqDs,aW,Nat.reduceAdd,aC] at h)<;>(try (exfalso;omega)))
    | refine aF rfl ?_
    | refine aG rfl ?_
    | refine aA rfl (Cj d.db hs.1) rfl ?_
    | refine aA rfl (zY d.files hs.2.1) rfl ?_
    | refine aA rfl (Cj d.jour hs.2.2) rfl ?_
    | refine aB rfl ?_ ?_
    | (refine aE rfl ?_;first | refine rb ?_ | refine ri ?_ | refine bC ?_ ?_ | refine bB ?_)
    | refine aD rfl ?_)
  rfl
end
section
open Classical
variable {W:Wld}

theorem Ro {α:Type}{f:α→Int}(hf:∀ x,0≤f x):∀ {xs:List α} {x:α},x∈xs→f x≤dK f xs
 | y::r,x,h=>by
  have h1:=dC hf r
  have h2:=hf y
  simp only [dK,List.map_cons,List.sum_cons] at *
  rcases List.mem_cons.1 h with e | h'
  ·rw [e];omega
  ·have:=Ro hf h'
   simp only [dK] at this
   omega
theorem FU {ps:List Pk}(h:kI ps≤1073741824):SmPs ps:=by
 have hn:=dC zU ps
 unfold kI at h
 refine ⟨by unfold lim;omega,fun p hp=>?_⟩
 have:=Ro zU hp
 have e:cP p=p.files.length+p.deps.length:=rfl
 exact ⟨by unfold lim;omega,by unfold lim;omega⟩
theorem Qi (d:Dk):0≤szD d:=by
 have:=kM d.db
 have:=kM d.jour
 unfold szD
 omega
end
section
open Classical
variable {W:Wld}

def cR (s:SR):Int:=s.keys.length+s.sigs.length
def cX (s:SX):Int:=s.ms.length+s.sigs.length
theorem IC (s:SR):0≤cR s:=by unfold cR;omega
theorem ID (s:SX):0≤cX s:=by unfold cX;omega
def sP (l:List SR):Int:=l.length+dK cR l
def vJ (l:List SX):Int:=l.length+dK cX l
theorem LI (l:List SR):0≤sP l:=by have:=dC IC l;unfold sP;omega
theorem LJ (l:List SX):0≤vJ l:=by have:=dC ID l;unfold vJ;omega
def BgR (s:SR):Prop:=(s.keys.length:Int)≤mx∧(s.sigs.length:Int)≤mx
def BgX (s:SX):Prop:=(s.ms.length:Int)≤mx∧(s.sigs.length:Int)≤mx
def IE (t:Tu):Int:=t.r.keys.length+t.x.ms.length
def ZW (w:Wo):Int:=sP w.roots+vJ w.ixs+kI w.pkgs+w.bad.length+IE w.tr+kI w.store+szD w.dk
structure BgW (w:Wo):Prop where
  roots:(w.roots.length:Int)≤mx∧∀ s∈w.roots,BgR s
  ixs:(w.ixs.length:Int)≤mx∧∀ s∈w.ixs,BgX s
  pkgs:BgPs w.pkgs
  bad:(w.bad.length:Int)≤mx
  keys:(w.tr.r.keys.length:Int)≤mx
  ms:(w.tr.x.ms.length:Int)≤mx
  store:BgPs w.store
  dk:BgD w.dk
structure BgV (e:Vt):Prop where
  pkg:BgP e.pkg
  root:BgR e.root
  ix:BgX e.ix
theorem No (t:Tu)(left:Int)(h:0≤left∧left≤1048576)(hb:(t.r.keys.length:Int)≤mx∧(t.x.ms.length:Int)≤mx):FunOk PP W tB lM [ZU t,i64 left] [i64 (xR left (IE t))]:=QT t left h hb.1 hb.2
theorem LK (s:SR)(left:Int)(h:0≤left∧left≤1048576)(hb:BgR s):FunOk PP W tX kC [eSR s,i64 left] [i64 (xR left (cR s))]:=by
  refine IQ (aI ?_)
  unfold cR
  have e0:(Db s).keys.length=s.keys.length:=rfl
  have f0:=Jl (W:=W) (Db s) (left) (by omega) hb.1
  by_cases c0:left<s.keys.length
  · rw [aX c0] at f0
    (repeat' first
    | (refine run_ite rfl (fun h=>?_) (fun h=>?_)<;>(try simp (disch:=omega) only [zB,eqDs,aW,Nat.reduceAdd,aC] at h)<;>(try (exfalso;omega)))
    | refine aF rfl ?_
    | refine aG rfl ?_
    | refine aA rfl (f0) rfl ?_
    | refine aB rfl ?_ ?_
    | (refine aE rfl ?_;first | refine rb ?_ | refine ri ?_ | refine bC ?_ ?_ | refine bB ?_)
    | refine aD rfl ?_)
    rw [aX (by omega)]
  rw [bQ (by omega)] at f0
  have f1:=vI (W:=W) s.sigs (left - s.keys.length) (by omega) hb.2
  by_cases c1:left - s.keys.length<s.sigs.length
  · rw [aX c1] at f1
    (repeat' first
    | (refine run_ite rfl (fun h=>?_) (fun h=>?_)<;>(try simp (disch:=omega) only [zB,eqDs,aW,Nat.reduceAdd,aC] at h)<;>(try (exfalso;omega)))
    | refine aF rfl ?_
    | refine aG rfl ?_
    | refine aA rfl (f0) rfl ?_
    | refine aA rfl (f1) rfl ?_
    | refine aB rfl ?_ ?_
    | (refine aE rfl ?_;first | refine rb ?_ | refine ri ?_ | refine bC ?_ ?_ | refine bB ?_)
    | refine aD rfl ?_)
    rw [aX (by omega)]
  rw [bQ (by omega)] at f1
  (repeat' first
    | (refine run_ite rfl (fun h=>?_) (fun h=>?_)<;>(try simp (disch:=omega) only [zB,eqDs,aW,Nat.reduceAdd,aC] at h)<;>(try (exfalso;omega)))
    | refine aF rfl ?_
    | refine aG rfl ?_
    | refine aA rfl (f0) rfl ?_
    | refine aA rfl (f1) rfl ?_
    | refine aB rfl ?_ ?_
    | (refine aE rfl ?_;first | refine rb ?_ | refine ri ?_ | refine bC ?_ ?_ | refine bB ?_)
    | refine aD rfl ?_)
  rw [bQ (by omega)];omega
theorem Ie (l:List SR)(left:Int)(h:0≤left∧left≤1048576)(hb:(l.length:Int)≤mx∧∀ s∈l,BgR s):FunOk PP W qW iI [[.sl (l.map eSR)],i64 left] [i64 (xR left (sP l))]:=by
  refine Ge (aI ?_)
  obtain ⟨b1,b2⟩:=hb
  unfold mx at b1
  have hnn:=dC IC l
  (repeat' first
    | (refine run_ite rfl (fun h=>?_) (fun h=>?_)<;>(try simp (disch:=omega) only [zB,eqDs,aW,Nat.reduceAdd,aC] at h)<;>(try (exfalso;omega)))
    | refine aF rfl ?_
    | refine aG rfl ?_
    | refine aB rfl ?_ ?_
    | (refine aE rfl ?_;first | refine rb ?_ | refine ri ?_ | refine bC ?_ ?_ | refine bB ?_)
    | refine aD rfl ?_)
  · rw [aX (by unfold sP;omega)]
  rename_i h'
  refine aP rfl (fun i:Int=>0≤i∧i≤l.length∧0≤left - l.length - dK cR (l.take i.toNat)) (fun i=>[(5,.val (i64 i)),(1,.val (i64 (left - l.length - dK cR (l.take i.toNat)))),(0,.val [.sl (l.map eSR)])]) (fun i=>(l.length - i).toNat) 0 ⟨by omega,by omega,by simp [dK];omega⟩ ⟨rfl,aQ (by rw [List.length_map,aC _ (by omega)];simp [dK]),rfl,trivial⟩ rfl ?_
  rintro i e ⟨h0,hN,hP⟩
  have hs:=dC IC (l.take i.toNat)
  by_cases hi:i<l.length
  · have f:=LK (W:=W) (ix l i) (left - l.length - dK cR (l.take i.toNat)) (by omega) (b2 _ (eW h0 hi))
    have ht:=nV cR l h0 hi
    have hle:=AJ IC l (i+1).toNat
    have hc:=IC (ix l i)
    by_cases c:left - l.length - dK cR (l.take i.toNat)<cR (ix l i)
    · rw [aX c] at f
      (repeat' first
    | (refine run_ite rfl (fun h=>?_) (fun h=>?_)<;>(try simp (disch:=omega) only [zB,eqDs,aW,Nat.reduceAdd,aC] at h)<;>(try (exfalso;omega)))
    | refine aF rfl ?_
    | refine aG rfl ?_
    | refine cF rfl (f) rfl ?_
    | refine aB rfl ?_ ?_
    | (refine aE rfl ?_;first | refine rb ?_ | refine ri ?_ | refine bC ?_ ?_ | refine bB ?_)
    | refine aD rfl ?_)
      rw [aX (by unfold sP;omega)]
    · rw [bQ (by omega)] at f
      (repeat' first
    | (refine run_ite rfl (fun h=>?_) (fun h=>?_)<;>(try simp (disch:=omega) only [zB,eqDs,aW,Nat.reduceAdd,aC] at h)<;>(try (exfalso;omega)))
    | refine aF rfl ?_
    | refine aG rfl ?_
    | refine cF rfl (f) rfl ?_
    | (refine aN rfl (Exists.intro (i+1) ⟨by omega,⟨by omega,by omega,by omega⟩,aQ (aC _ (by omega)),aQ (by omega),rfl,trivial⟩))
    | refine aB rfl ?_ ?_
    | (refine aE rfl ?_;first | refine rb ?_ | refine ri ?_ | refine bC ?_ ?_ | refine bB ?_)
    | refine aD rfl ?_)
  · (repeat' first
    | (refine run_ite rfl (fun h=>?_) (fun h=>?_)<;>(try simp (disch:=omega) only [zB,eqDs,aW,Nat.reduceAdd,aC] at h)<;>(try (exfalso;omega)))
    | refine aF rfl ?_
    | refine aG rfl ?_
    | refine aB rfl ?_ ?_
    | (refine aE rfl ?_;first | refine rb ?_ | refine ri ?_ | refine bC ?_ ?_ | refine bB ?_)
    | refine aD rfl ?_)
    rw [vH _ _ (by omega)] at hP
    rw [vH _ _ (by omega),bQ (by unfold sP;omega)]
    unfold sP
    omega
theorem If (s:SX)(left:Int)(h:0≤left∧left≤1048576)(hb:BgX s):FunOk PP W rB iS [eSX s,i64 left] [i64 (xR left (cX s))]:=by
  refine HC (aI ?_)
  unfold cX
  have e0:(LT s).ms.length=s.ms.length:=rfl
  have f0:=Hx (W:=W) (LT s) (left) (by omega) hb.1
  by_cases c0:left<s.ms.length
  · rw [aX c0] at f0
    (repeat' first
    | (refine run_ite rfl (fun h=>?_) (fun h=>?_)<;>(try simp (disch:=omega) only [zB,eqDs,aW,Nat.reduceAdd,aC] at h)<;>(try (exfalso;omega)))
    | refine aF rfl ?_
    | refine aG rfl ?_
    | refine aA rfl (f0) rfl ?_
    | refine aB rfl ?_ ?_
    | (refine aE rfl ?_;first | refine rb ?_ | refine ri ?_ | refine bC ?_ ?_ | refine bB ?_)
    | refine aD rfl ?_)
    rw [aX (by omega)]
  rw [bQ (by omega)] at f0
  have f1:=vI (W:=W) s.sigs (left - s.ms.length) (by omega) hb.2
  by_cases c1:left - s.ms.length<s.sigs.length
  · rw [aX c1] at f1
    (repeat' first
    | (refine run_ite rfl (fun h=>?_) (fun h=>?_)<;>(try simp (disch:=omega) only [zB,eqDs,aW,Nat.reduceAdd,aC] at h)<;>(try (exfalso;omega)))
    | refine aF rfl ?_
    | refine aG rfl ?_
    | refine aA rfl (f0) rfl ?_
    | refine aA rfl (f1) rfl ?_
    | refine aB rfl ?_ ?_
    | (refine aE rfl ?_;first | refine rb ?_ | refine ri ?_ | refine bC ?_ ?_ | refine bB ?_)
    | refine aD rfl ?_)
    rw [aX (by omega)]
  rw [bQ (by omega)] at f1
  (repeat' first
    | (refine run_ite rfl (fun h=>?_) (fun h=>?_)<;>(try simp (disch:=omega) only [zB,eqDs,aW,Nat.reduceAdd,aC] at h)<;>(try (exfalso;omega)))
    | refine aF rfl ?_
    | refine aG rfl ?_
    | refine aA rfl (f0) rfl ?_
    | refine aA rfl (f1) rfl ?_
    | refine aB rfl ?_ ?_
    | (refine aE rfl ?_;first | refine rb ?_ | refine ri ?_ | refine bC ?_ ?_ | refine bB ?_)
    | refine aD rfl ?_)
  rw [bQ (by omega)];omega
theorem IF (l:List SX)(left:Int)(h:0≤left∧left≤1048576)(hb:(l.length:Int)≤mx∧∀ s∈l,BgX s):FunOk PP W pK gI [[.sl (l.map eSX)],i64 left] [i64 (xR left (vJ l))]:=by
  refine En (aI ?_)
  obtain ⟨b1,b2⟩:=hb
  unfold mx at b1
  have hnn:=dC ID l
  (repeat' first
    | (refine run_ite rfl (fun h=>?_) (fun h=>?_)<;>(try simp (disch:=omega) only [zB,eqDs,aW,Nat.reduceAdd,aC] at h)<;>(try (exfalso;omega)))
    | refine aF rfl ?_
    | refine aG rfl ?_
    | refine aB rfl ?_ ?_
    | (refine aE rfl ?_;first | refine rb ?_ | refine ri ?_ | refine bC ?_ ?_ | refine bB ?_)
    | refine aD rfl ?_)
  · rw [aX (by unfold vJ;omega)]
  rename_i h'
  refine aP rfl (fun i:Int=>0≤i∧i≤l.length∧0≤left - l.length - dK cX (l.take i.toNat)) (fun i=>[(5,.val (i64 i)),(1,.val (i64 (left - l.length - dK cX (l.take i.toNat)))),(0,.val [.sl (l.map eSX)])]) (fun i=>(l.length - i).toNat) 0 ⟨by omega,by omega,by simp [dK];omega⟩ ⟨rfl,aQ (by rw [List.length_map,aC _ (by omega)];simp [dK]),rfl,trivial⟩ rfl ?_
  rintro i e ⟨h0,hN,hP⟩
  have hs:=dC ID (l.take i.toNat)
  by_cases hi:i<l.length
  · have f:=If (W:=W) (ix l i) (left - l.length - dK cX (l.take i.toNat)) (by omega) (b2 _ (eW h0 hi))
    have ht:=nV cX l h0 hi
    have hle:=AJ ID l (i+1).toNat
    have hc:=ID (ix l i)
    by_cases c:left - l.length - dK cX (l.take i.toNat)<cX (ix l i)
    · rw [aX c] at f
      (repeat' first
    | (refine run_ite rfl (fun h=>?_) (fun h=>?_)<;>(try simp (disch:=omega) only [zB,eqDs,aW,Nat.reduceAdd,aC] at h)<;>(try (exfalso;omega)))
    | refine aF rfl ?_
    | refine aG rfl ?_
    | refine cF rfl (f) rfl ?_
    | refine aB rfl ?_ ?_
    | (refine aE rfl ?_;first | refine rb ?_ | refine ri ?_ | refine bC ?_ ?_ | refine bB ?_)
    | refine aD rfl ?_)
      rw [aX (by unfold vJ;omega)]
    · rw [bQ (by omega)] at f
      (repeat' first
    | (refine run_ite rfl (fun h=>?_) (fun h=>?_)<;>(try simp (disch:=omega) only [zB,eqDs,aW,Nat.reduceAdd,aC] at h)<;>(try (exfalso;omega)))
    | refine aF rfl ?_
    | refine aG rfl ?_
    | refine cF rfl (f) rfl ?_
    | (refine aN rfl (Exists.intro (i+1) ⟨by omega,⟨by omega,by omega,by omega⟩,aQ (aC _ (by omega)),aQ (by omega),rfl,trivial⟩))
    | refine aB rfl ?_ ?_
    | (refine aE rfl ?_;first | refine rb ?_ | refine ri ?_ | refine bC ?_ ?_ | refine bB ?_)
    | refine aD rfl ?_)
  · (repeat' first
    | (refine run_ite rfl (fun h=>?_) (fun h=>?_)<;>(try simp (disch:=omega) only [zB,eqDs,aW,Nat.reduceAdd,aC] at h)<;>(try (exfalso;omega)))
    | refine aF rfl ?_
    | refine aG rfl ?_
    | refine aB rfl ?_ ?_
    | (refine aE rfl ?_;first | refine rb ?_ | refine ri ?_ | refine bC ?_ ?_ | refine bB ?_)
    | refine aD rfl ?_)
    rw [vH _ _ (by omega)] at hP
    rw [vH _ _ (by omega),bQ (by unfold vJ;omega)]
    unfold vJ
    omega
set_option maxHeartbeats 2000000 in
theorem Qj (w:Wo)(left:Int)(h:0≤left∧left≤1048576)(hb:BgW w):FunOk PP W yL oP [xS w,i64 left] [i64 (xR left (ZW w))]:=by
  refine MN (aI ?_)
  unfold ZW
  have n0:=LI w.roots
  have n1:=LJ w.ixs
  have n2:=kM w.pkgs
  have n3:=kM w.store
  have n4:=Qi w.dk
  have n5:0≤IE w.tr:=by unfold IE;omega
  have f0:=Ie (W:=W) w.roots (left) (by omega) hb.roots
  by_cases c0:left<sP w.roots
  · rw [aX c0] at f0
    (repeat' first
    | (refine run_ite rfl (fun h=>?_) (fun h=>?_)<;>(try simp (disch:=omega) only [zB,eqDs,aW,Nat.reduceAdd,aC] at h)<;>(try (exfalso;omega)))
    | refine aF rfl ?_
    | refine aG rfl ?_
    | refine aA rfl (f0) rfl ?_
    | refine aB rfl ?_ ?_
    | (refine aE rfl ?_;first | refine rb ?_ | refine ri ?_ | refine bC ?_ ?_ | refine bB ?_)
    | refine aD rfl ?_)
    rw [aX (by omega)]
  rw [bQ (by omega)] at f0
  have f1:=IF (W:=W) w.ixs (left - sP w.roots) (by omega) hb.ixs
  by_cases c1:left - sP w.roots<vJ w.ixs
  · rw [aX c1] at f1
    (repeat' first
    | (refine run_ite rfl (fun h=>?_) (fun h=>?_)<;>(try simp (disch:=omega) only [zB,eqDs,aW,Nat.reduceAdd,aC] at h)<;>(try (exfalso;omega)))
    | refine aF rfl ?_
    | refine aG rfl ?_
    | refine aA rfl (f0) rfl ?_
    | refine aA rfl (f1) rfl ?_
    | refine aB rfl ?_ ?_
    | (refine aE rfl ?_;first | refine rb ?_ | refine ri ?_ | refine bC ?_ ?_ | refine bB ?_)
    | refine aD rfl ?_)
    rw [aX (by omega)]
  rw [bQ (by omega)] at f1
  have f2:=AK (W:=W) w.pkgs (left - sP w.roots - vJ w.ixs) (by omega) hb.pkgs
  by_cases c2:left - sP w.roots - vJ w.ixs<kI w.pkgs
  · rw [aX c2] at f2
    (repeat' first
    | (refine run_ite rfl (fun h=>?_) (fun h=>?_)<;>(try simp (disch:=omega) only [zB,eqDs,aW,Nat.reduceAdd,aC] at h)<;>(try (exfalso;omega)))
    | refine aF rfl ?_
    | refine aG rfl ?_
    | refine aA rfl (f0) rfl ?_
    | refine aA rfl (f1) rfl ?_
    | refine aA rfl (f2) rfl ?_
    | refine aB rfl ?_ ?_
    | (refine aE rfl ?_;first | refine rb ?_ | refine ri ?_ | refine bC ?_ ?_ | refine bB ?_)
    | refine aD rfl ?_)
    rw [aX (by omega)]
  rw [bQ (by omega)] at f2
  have f3:=vI (W:=W) w.bad (left - sP w.roots - vJ w.ixs - kI w.pkgs) (by omega) hb.bad
  by_cases c3:left - sP w.roots - vJ w.ixs - kI w.pkgs<w.bad.length
  · rw [aX c3] at f3
    (repeat' first
    | (refine run_ite rfl (fun h=>?_) (fun h=>?_)<;>(try simp (disch:=omega) only [zB,eqDs,aW,Nat.reduceAdd,aC] at h)<;>(try (exfalso;omega)))
    | refine aF rfl ?_
    | refine aG rfl ?_
    | refine aA rfl (f0) rfl ?_
    | refine aA rfl (f1) rfl ?_
    | refine aA rfl (f2) rfl ?_
    | refine aA rfl (f3) rfl ?_
    | refine aB rfl ?_ ?_
    | (refine aE rfl ?_;first | refine rb ?_ | refine ri ?_ | refine bC ?_ ?_ | refine bB ?_)
    | refine aD rfl ?_)
    rw [aX (by omega)]
  rw [bQ (by omega)] at f3
  have f4:=No (W:=W) w.tr (left - sP w.roots - vJ w.ixs - kI w.pkgs - w.bad.length) (by omega) ⟨hb.keys,hb.ms⟩
  by_cases c4:left - sP w.roots - vJ w.ixs - kI w.pkgs - w.bad.length<IE w.tr
  · rw [aX c4] at f4
    (repeat' first
    | (refine run_ite rfl (fun h=>?_) (fun h=>?_)<;>(try simp (disch:=omega) only [zB,eqDs,aW,Nat.reduceAdd,aC] at h)<;>(try (exfalso;omega)))
    | refine aF rfl ?_
    | refine aG rfl ?_
    | refine aA rfl (f0) rfl ?_
    | refine aA rfl (f1) rfl ?_
    | refine aA rfl (f2) rfl ?_
    | refine aA rfl (f3) rfl ?_
    | refine aA rfl (f4) rfl ?_
    | refine aB rfl ?_ ?_
    | (refine aE rfl ?_;first | refine rb ?_ | refine ri ?_ | refine bC ?_ ?_ | refine bB ?_)
    | refine aD rfl ?_)
    rw [aX (by omega)]
  rw [bQ (by omega)] at f4
  have f5:=AK (W:=W) w.store (left - sP w.roots - vJ w.ixs - kI w.pkgs - w.bad.length - IE w.tr) (by omega) hb.store
  by_cases c5:left - sP w.roots - vJ w.ixs - kI w.pkgs - w.bad.length - IE w.tr<kI w.store
  · rw [aX c5] at f5
    (repeat' first
    | (refine run_ite rfl (fun h=>?_) (fun h=>?_)<;>(try simp (disch:=omega) only [zB,eqDs,aW,Nat.reduceAdd,aC] at h)<;>(try (exfalso;omega)))
    | refine aF rfl ?_
    | refine aG rfl ?_
    | refine aA rfl (f0) rfl ?_
    | refine aA rfl (f1) rfl ?_
    | refine aA rfl (f2) rfl ?_
    | refine aA rfl (f3) rfl ?_
    | refine aA rfl (f4) rfl ?_
    | refine aA rfl (f5) rfl ?_
    | refine aB rfl ?_ ?_
    | (refine aE rfl ?_;first | refine rb ?_ | refine ri ?_ | refine bC ?_ ?_ | refine bB ?_)
    | refine aD rfl ?_)
    rw [aX (by omega)]
  rw [bQ (by omega)] at f5
  have f6:=TU (W:=W) w.dk (left - sP w.roots - vJ w.ixs - kI w.pkgs - w.bad.length - IE w.tr - kI w.store) (by omega) hb.dk
  by_cases c6:left - sP w.roots - vJ w.ixs - kI w.pkgs - w.bad.length - IE w.tr - kI w.store<szD w.dk
  · rw [aX c6] at f6
    (repeat' first
    | (refine run_ite rfl (fun h=>?_) (fun h=>?_)<;>(try simp (disch:=omega) only [zB,eqDs,aW,Nat.reduceAdd,aC] at h)<;>(try (exfalso;omega)))
    | refine aF rfl ?_
    | refine aG rfl ?_
    | refine aA rfl (f0) rfl ?_
    | refine aA rfl (f1) rfl ?_
    | refine aA rfl (f2) rfl ?_
    | refine aA rfl (f3) rfl ?_
    | refine aA rfl (f4) rfl ?_
    | refine aA rfl (f5) rfl ?_
    | refine aA rfl (f6) rfl ?_
    | refine aB rfl ?_ ?_
    | (refine aE rfl ?_;first | refine rb ?_ | refine ri ?_ | refine bC ?_ ?_ | refine bB ?_)
    | refine aD rfl ?_)
    rw [aX (by omega)]
  rw [bQ (by omega)] at f6
  (repeat' first
    | (refine run_ite rfl (fun h=>?_) (fun h=>?_)<;>(try simp (disch:=omega) only [zB,eqDs,aW,Nat.reduceAdd,aC] at h)<;>(try (exfalso;omega)))
    | refine aF rfl ?_
    | refine aG rfl ?_
    | refine aA rfl (f0) rfl ?_
    | refine aA rfl (f1) rfl ?_
    | refine aA rfl (f2) rfl ?_
    | refine aA rfl (f3) rfl ?_
    | refine aA rfl (f4) rfl ?_
    | refine aA rfl (f5) rfl ?_
    | refine aA rfl (f6) rfl ?_
    | refine aB rfl ?_ ?_
    | (refine aE rfl ?_;first | refine rb ?_ | refine ri ?_ | refine bC ?_ ?_ | refine bB ?_)
    | refine aD rfl ?_)
  rw [bQ (by omega)];omega
/-! What is copied. -/
theorem Yu {xs ys:List SR}{i:Int}(h0:0≤i)(h2:i<ys.length):DI (ys.map eSR) i 0 (eSR (ix xs i))=(ys.set i.toNat (ix xs i)).map eSR:=Cc h0 h2 rfl
theorem Yv {xs ys:List SX}{i:Int}(h0:0≤i)(h2:i<ys.length):DI (ys.map eSX) i 0 (eSX (ix xs i))=(ys.set i.toNat (ix xs i)).map eSX:=Cc h0 h2 rfl
theorem Np (s:SR)(h:SmR s):FunOk PP W tY kD [eSR s] [eSR s]:=by
  refine IS (aI ?_)
  (repeat' first
    | (refine run_ite rfl (fun h=>?_) (fun h=>?_)<;>(try simp (disch:=omega) only [zB,eqDs,aW,Nat.reduceAdd,aC] at h)<;>(try (exfalso;omega)))
    | refine aF rfl ?_
    | refine aG rfl ?_
    | refine aA rfl (Nn (Db s) h.1) rfl ?_
    | refine aA rfl (zY s.sigs h.2) rfl ?_
    | refine aB rfl ?_ ?_
    | (refine aE rfl ?_;first | refine rb ?_ | refine ri ?_ | refine bC ?_ ?_ | refine bB ?_)
    | refine aD rfl ?_)
  rfl
theorem LL (l:List SR)(hl:l.length≤lim)(hs:∀ s∈l,SmR s):FunOk PP W qZ iO [[.sl (l.map eSR)]] [[.sl (l.map eSR)]]:=by
  refine Gq (aI ?_)
  unfold lim at hl
  (repeat' first
    | (refine run_ite rfl (fun h=>?_) (fun h=>?_)<;>(try simp (disch:=omega) only [zB,eqDs,aW,Nat.reduceAdd,aC] at h)<;>(try (exfalso;omega)))
    | refine aF rfl ?_
    | refine aG rfl ?_
    | refine aB rfl ?_ ?_
    | (refine aE rfl ?_;first | refine rb ?_ | refine ri ?_ | refine bC ?_ ?_ | refine bB ?_)
    | refine aD rfl ?_)
  · simp [lim];omega
  refine aP rfl (fun x:Int×List SR=>0≤x.1∧x.1≤l.length∧x.2.length=l.length∧lL x.1 (fun j=>ix x.2 j=ix l j)) (fun x=>[(4,.val (i64 x.1)),(3,.val [.sl (x.2.map eSR)]),(0,.val [.sl (l.map eSR)])]) (fun x=>(l.length - x.1).toNat) (0,List.replicate l.length ⟨0,[],0,[]⟩) ⟨by omega,by simp,by simp,aZ _⟩ ⟨rfl,gY (by simp),rfl,trivial⟩ rfl ?_
  rintro ⟨i,ys⟩ e ⟨h0,hN,hy,hP⟩
  dsimp only at h0 hN hy hP ⊢
  (repeat' first
    | (refine run_ite rfl (fun h=>?_) (fun h=>?_)<;>(try simp (disch:=omega) only [zB,eqDs,aW,Nat.reduceAdd,aC] at h)<;>(try (exfalso;omega)))
    | refine aF rfl ?_
    | refine aG rfl ?_
    | refine cF rfl (Np (ix l i) (hs _ (eW h0 (by assumption)))) rfl ?_
    | (refine vG rfl (DV (sz:=4) h0 (by omega) (by omega) (fun _=>rfl) (Nat.le_of_ble_eq_true rfl)) (gY (Yu h0 (by omega))) ?_)
    | (refine aN rfl (Exists.intro (i+1,ys.set i.toNat (ix l i)) ⟨by dsimp only;omega,⟨by dsimp only;omega,by dsimp only;omega,by simpa using hy,wR h0 (by omega) hP⟩,aQ (aC _ (by omega)),rfl,rfl,trivial⟩))
    | refine aB rfl ?_ ?_
    | (refine aE rfl ?_;first | refine rb ?_ | refine ri ?_ | refine bC ?_ ?_ | refine bB ?_)
    | refine aD rfl ?_)
  · exact gY (by rw [jS hy (cE hP (by omega))])
def SmX (s:SX):Prop:=s.ms.length≤lim∧s.sigs.length≤lim
theorem LM (s:SX)(h:SmX s):FunOk PP W rC iT [eSX s] [eSX s]:=by
  refine HE (aI ?_)
  (repeat' first
    | (refine run_ite rfl (fun h=>?_) (fun h=>?_)<;>(try simp (disch:=omega) only [zB,eqDs,aW,Nat.reduceAdd,aC] at h)<;>(try (exfalso;omega)))
    | refine aF rfl ?_
    | refine aG rfl ?_
    | refine aA rfl (Js (LT s) h.1) rfl ?_
    | refine aA rfl (zY s.sigs h.2) rfl ?_
    | refine aB rfl ?_ ?_
    | (refine aE rfl ?_;first | refine rb ?_ | refine ri ?_ | refine bC ?_ ?_ | refine bB ?_)
    | refine aD rfl ?_)
  rfl
theorem Ig (l:List SX)(hl:l.length≤lim)(hs:∀ s∈l,SmX s):FunOk PP W pL gJ [[.sl (l.map eSX)]] [[.sl (l.map eSX)]]:=by
  refine Ep (aI ?_)
  unfold lim at hl
  (repeat' first
    | (refine run_ite rfl (fun h=>?_) (fun h=>?_)<;>(try simp (disch:=omega) only [zB,eqDs,aW,Nat.reduceAdd,aC] at h)<;>(try (exfalso;omega)))
    | refine aF rfl ?_
    | refine aG rfl ?_
    | refine aB rfl ?_ ?_
    | (refine aE rfl ?_;first | refine rb ?_ | refine ri ?_ | refine bC ?_ ?_ | refine bB ?_)
    | refine aD rfl ?_)
  · simp [lim];omega
  refine aP rfl (fun x:Int×List SX=>0≤x.1∧x.1≤l.length∧x.2.length=l.length∧lL x.1 (fun j=>ix x.2 j=ix l j)) (fun x=>[(4,.val (i64 x.1)),(3,.val [.sl (x.2.map eSX)]),(0,.val [.sl (l.map eSX)])]) (fun x=>(l.length - x.1).toNat) (0,List.replicate l.length ⟨0,0,[],[]⟩) ⟨by omega,by simp,by simp,aZ _⟩ ⟨rfl,gY (by simp),rfl,trivial⟩ rfl ?_
  rintro ⟨i,ys⟩ e ⟨h0,hN,hy,hP⟩
  dsimp only at h0 hN hy hP ⊢
  (repeat' first
    | (refine run_ite rfl (fun h=>?_) (fun h=>?_)<;>(try simp (disch:=omega) only [zB,eqDs,aW,Nat.reduceAdd,aC] at h)<;>(try (exfalso;omega)))
    | refine aF rfl ?_
    | refine aG rfl ?_
    | refine cF rfl (LM (ix l i) (hs _ (eW h0 (by assumption)))) rfl ?_
    | (refine vG rfl (DV (sz:=4) h0 (by omega) (by omega) (fun _=>rfl) (Nat.le_of_ble_eq_true rfl)) (gY (Yv h0 (by omega))) ?_)
    | (refine aN rfl (Exists.intro (i+1,ys.set i.toNat (ix l i)) ⟨by dsimp only;omega,⟨by dsimp only;omega,by dsimp only;omega,by simpa using hy,wR h0 (by omega) hP⟩,aQ (aC _ (by omega)),rfl,rfl,trivial⟩))
    | refine aB rfl ?_ ?_
    | (refine aE rfl ?_;first | refine rb ?_ | refine ri ?_ | refine bC ?_ ?_ | refine bB ?_)
    | refine aD rfl ?_)
  · exact gY (by rw [jS hy (cE hP (by omega))])
theorem Wj {s:SR}(h:BdR s):SmR s:=⟨dH h.1,dH h.2⟩
theorem Wl {s:SX}(h:BdX s):SmX s:=⟨dH h.1,dH h.2⟩
theorem To (w:Wo)(h:BdW w):FunOk PP W oJ iH [xS w] [xS w]:=by
  refine MR (aI ?_)
  (repeat' first
    | (refine run_ite rfl (fun h=>?_) (fun h=>?_)<;>(try simp (disch:=omega) only [zB,eqDs,aW,Nat.reduceAdd,aC] at h)<;>(try (exfalso;omega)))
    | refine aF rfl ?_
    | refine aG rfl ?_
    | refine aA rfl (LL w.roots (AN h.roots.1) (fun s hs=>Wj (h.roots.2 s hs))) rfl ?_
    | refine aA rfl (Ig w.ixs (AN h.ixs.1) (fun s hs=>Wl (h.ixs.2 s hs))) rfl ?_
    | refine aA rfl (Cj w.pkgs h.pkgs.1) rfl ?_
    | refine aA rfl (zY w.bad (dH h.bad)) rfl ?_
    | refine aA rfl (Tn w.tr (dH h.keys) (dH h.ms)) rfl ?_
    | refine aA rfl (Cj w.store h.store.1) rfl ?_
    | refine aA rfl (Wi w.dk h.dk.1) rfl ?_
    | refine aB rfl ?_ ?_
    | (refine aE rfl ?_;first | refine rb ?_ | refine ri ?_ | refine bC ?_ ?_ | refine bB ?_)
    | refine aD rfl ?_)
  rfl
structure SmV (e:Vt):Prop where
  pkg:SmP e.pkg
  root:BdR e.root
  ix:BdX e.ix
/-! What is compared. -/
theorem FF (s:SX)(hs:SmX s):FunOk PP W rD iU [eSX s,eSX s] [bo true]:=by
  refine HG (aI ?_)
  have f:=Ci (W:=W) (LT s) hs.1
  (repeat' first
    | (refine run_ite rfl (fun h=>?_) (fun h=>?_)<;>(try simp (disch:=omega) only [zB,eqDs,aW,Nat.reduceAdd,aC] at h)<;>(try (exfalso;omega)))
    | refine aF rfl ?_
    | refine aG rfl ?_
    | refine aA rfl (f) rfl ?_
    | refine aA rfl (zV s.sigs hs.2) rfl ?_
    | refine aB rfl ?_ ?_
    | (refine aE rfl ?_;first | refine rb ?_ | refine ri ?_ | refine bC ?_ ?_ | refine bB ?_)
    | refine aD rfl ?_)
  all_goals first | rfl | exact absurd trivial (by assumption)
theorem De (l:List SX)(hl:l.length≤lim)(hs:∀ s∈l,SmX s):FunOk PP W pM gK [[.sl (l.map eSX)],[.sl (l.map eSX)]] [bo true]:=by
  refine Er (aI ?_)
  unfold lim at hl
  (repeat' first
    | (refine run_ite rfl (fun h=>?_) (fun h=>?_)<;>(try simp (disch:=omega) only [zB,eqDs,aW,Nat.reduceAdd,aC] at h)<;>(try (exfalso;omega)))
    | refine aF rfl ?_
    | refine aG rfl ?_
    | refine aB rfl ?_ ?_
    | (refine aE rfl ?_;first | refine rb ?_ | refine ri ?_ | refine bC ?_ ?_ | refine bB ?_)
    | refine aD rfl ?_)
  · exact absurd trivial (by assumption)
  refine aP rfl (fun i:Int=>0≤i∧i≤l.length) (fun i=>[(5,.val (i64 i)),(0,.val [.sl (l.map eSX)]),(1,.val [.sl (l.map eSX)])]) (fun i=>(l.length - i).toNat) 0 ⟨by omega,by omega⟩ ⟨rfl,rfl,rfl,trivial⟩ rfl ?_
  rintro i e ⟨h0,hN⟩
  by_cases hi:i<l.length
  · (repeat' first
    | (refine run_ite rfl (fun h=>?_) (fun h=>?_)<;>(try simp (disch:=omega) only [zB,eqDs,aW,Nat.reduceAdd,aC] at h)<;>(try (exfalso;omega)))
    | refine aF rfl ?_
    | refine aG rfl ?_
    | refine cF rfl (FF (ix l i) (hs _ (eW h0 hi))) rfl ?_
    | (refine aN rfl (Exists.intro (i+1) ⟨by omega,⟨by omega,by omega⟩,aQ (aC _ (by omega)),rfl,rfl,trivial⟩))
    | refine aB rfl ?_ ?_
    | (refine aE rfl ?_;first | refine rb ?_ | refine ri ?_ | refine bC ?_ ?_ | refine bB ?_)
    | refine aD rfl ?_)
    all_goals first | rfl | exact absurd trivial (by assumption)
  · (repeat' first
    | (refine run_ite rfl (fun h=>?_) (fun h=>?_)<;>(try simp (disch:=omega) only [zB,eqDs,aW,Nat.reduceAdd,aC] at h)<;>(try (exfalso;omega)))
    | refine aF rfl ?_
    | refine aG rfl ?_
    | refine aB rfl ?_ ?_
    | (refine aE rfl ?_;first | refine rb ?_ | refine ri ?_ | refine bC ?_ ?_ | refine bB ?_)
    | refine aD rfl ?_)
    rfl
theorem Ei (l:List Pk)(h:SmPs l):FunOk PP W kW gG [bY l,bY l] [bo true]:=by simpa using DX (W:=W) l l h
theorem Nq (d:Dk)(h:SmD d):FunOk PP W wB nL [Wv d,Wv d] [bo true]:=by simpa using TV (W:=W) d d h
theorem LN (w:Wo)(hw:BdW w):FunOk PP W yO oS [xS w,xS w] [bo true]:=by
  refine MV (aI ?_)
  have f:=TZ (W:=W) w.tr (dH hw.keys) (dH hw.ms)
  (repeat' first
    | (refine run_ite rfl (fun h=>?_) (fun h=>?_)<;>(try simp (disch:=omega) only [zB,eqDs,aW,Nat.reduceAdd,aC] at h)<;>(try (exfalso;omega)))
    | refine aF rfl ?_
    | refine aG rfl ?_
    | refine aA rfl (FE w.roots ⟨AN hw.roots.1,fun s hs=>Wj (hw.roots.2 s hs)⟩) rfl ?_
    | refine aA rfl (De w.ixs (AN hw.ixs.1) (fun s hs=>Wl (hw.ixs.2 s hs))) rfl ?_
    | refine aA rfl (Ei w.pkgs hw.pkgs.1) rfl ?_
    | refine aA rfl (zV w.bad (dH hw.bad)) rfl ?_
    | refine aA rfl (f) rfl ?_
    | refine aA rfl (Ei w.store hw.store.1) rfl ?_
    | refine aA rfl (Nq w.dk hw.dk.1) rfl ?_
    | refine aB rfl ?_ ?_
    | (refine aE rfl ?_;first | refine rb ?_ | refine ri ?_ | refine bC ?_ ?_ | refine bB ?_)
    | refine aD rfl ?_)
  all_goals first | rfl | exact absurd trivial (by assumption)
end
section
open Go.ChangeShapes Go.WideShapes Go.ChangeAt Go.RowKit

def Tp:Ck:= .int .i64 (.int .i64 .nil)
def Tq:Ck:= .int .i64 (.int .i64 (.sl Tp (.sl Tp .nil)))
def Wm:Ck:= .int .i64 .nil
theorem jN {α:Type}{enc:α→List D}{Q:α→Prop}:∀ {xs:List (List D)},(∀ x∈xs,∃ a,x=enc a∧Q a)→∃ l:List α,xs=l.map enc∧∀ a∈l,Q a
 | [],_=>⟨[],rfl,fun a h=>by cases h⟩
 | x::xs,h=>by
  obtain ⟨a,rfl,h1⟩:=h x (List.mem_cons_self ..)
  obtain ⟨l,rfl,h2⟩:=jN (xs:=xs) (fun y hy=>h y (List.mem_cons_of_mem _ hy))
  exact ⟨a::l,rfl,fun b hb=>by rcases List.mem_cons.1 hb with rfl | hb;exact h1;exact h2 b hb⟩
theorem Ej {n:Nat}(h:n≤maxLen):(n:Int)≤mx:=by
 unfold maxLen at h
 unfold mx
 omega
theorem aA6 {x:List D}(h:conf Wm x):∃ a:Int,x=i64 a∧True:=by
 obtain ⟨n,ds,rfl,_,h⟩:=h
 have:ds=[]:=h
 subst this
 exact ⟨n,rfl,trivial⟩
theorem LO {x:List D}(h:conf Tp x):∃ a:P2,x=eP2 a∧True:=by
 obtain ⟨n,ds,rfl,_,m,ds',rfl,_,h⟩:=h
 have:ds'=[]:=h
 subst this
 exact ⟨⟨n,m⟩,rfl,trivial⟩
theorem Yw {x:List D}(h:conf Tq x):∃ a:Pk,x=ePk a∧BgP a:=by
 obtain ⟨n,_,rfl,_,m,_,rfl,_,xs,_,rfl,h1,h2,ys,_,rfl,h3,h4,h⟩:=h
 have h:=(show _=[] from h)
 subst h
 obtain ⟨f,rfl,_⟩:=jN (fun x hx=>LO (h2 x hx))
 obtain ⟨d,rfl,_⟩:=jN (fun x hx=>LO (h4 x hx))
 rw [List.length_map] at h1 h3
 exact ⟨⟨n,m,f,d⟩,rfl,Ej h1,Ej h3⟩
theorem Cl {xs:List (List D)}(hl:xs.length≤maxLen)(h:∀ x∈xs,conf Tq x):∃ l:List Pk,xs=l.map ePk∧BgPs l:=by
 obtain ⟨l,rfl,h1⟩:=jN (fun x hx=>Yw (h x hx))
 rw [List.length_map] at hl
 exact ⟨l,rfl,Ej hl,h1⟩
end
section
open Classical
variable {W:Wld}

theorem LQ (w:Wo)(hs:BdW w)(hl:w.store.length≤2000000∧w.dk.db.length≤2000000∧w.dk.jour.length≤2000000):FunOk PP W jU eG [xS w] [bo (decide (RtIs w.roots w.tr.r∧(w.tr.has=true→XIs w.ixs w.tr.x)∧PubL w.pkgs w.store∧PubL w.pkgs w.dk.db∧PubL w.pkgs w.dk.jour))]:=by
  refine AV (aI ?_)
  have hb1:=Kz hs.roots.2
  have hb2:=LA hs.ixs.2
  have hsm:∀ i,SmP (ix (w.store++w.dk.db++w.dk.jour) i):=Rh (P:=SmP) (fun p hp=>by
    rcases List.mem_append.1 hp with hp | hp
    · rcases List.mem_append.1 hp with hp | hp
      · exact hs.store.1.2 p hp
      · exact hs.dk.1.1.2 p hp
    · exact hs.dk.1.2.2.2 p hp) ⟨Nat.zero_le _,Nat.zero_le _⟩
  have hll:(w.store++w.dk.db++w.dk.jour).length≤lim:=by simp only [List.length_append];unfold lim;omega
  (repeat' first
    | (refine run_ite rfl (fun h=>?_) (fun h=>?_)<;>(try simp (disch:=omega) only [zB,eqDs,aW,Nat.reduceAdd,aC] at h)<;>(try (exfalso;omega)))
    | refine aF rfl ?_
    | refine aG rfl ?_
    | refine aA rfl (Qd w w.roots (AN hs.roots.1) hs hb1) rfl ?_
    | refine aA rfl (Qf w w.ixs (AN hs.ixs.1) hb2) rfl ?_
    | refine aA rfl (Tk w.store w.dk.db w.dk.jour hl.1 hl.2.1 hl.2.2) rfl ?_
    | refine aA rfl (Qh w (w.store++w.dk.db++w.dk.jour) hll hs hsm) rfl ?_
    | refine aB rfl ?_ ?_
    | (refine aE rfl ?_;first | refine rb ?_ | refine ri ?_ | refine bC ?_ ?_ | refine bB ?_)
    | refine aD rfl ?_)
  all_goals first
    | exact fD (p:=RtIs w.roots w.tr.r∧(w.tr.has=true→XIs w.ixs w.tr.x)∧PubL w.pkgs w.store∧PubL w.pkgs w.dk.db∧PubL w.pkgs w.dk.jour) (fun h'=>h h'.1)
    | exact fD (p:=RtIs w.roots w.tr.r∧(w.tr.has=true→XIs w.ixs w.tr.x)∧PubL w.pkgs w.store∧PubL w.pkgs w.dk.db∧PubL w.pkgs w.dk.jour) (fun h'=>h (h'.2.1 (by assumption)))
    | exact WT (p:=RtIs w.roots w.tr.r∧(w.tr.has=true→XIs w.ixs w.tr.x)∧PubL w.pkgs w.store∧PubL w.pkgs w.dk.db∧PubL w.pkgs w.dk.jour) (by
        rw [Bool.not_eq_true',decide_eq_false_iff_not]
        constructor
        · intro hn
          have hm:∀ p∈w.store++w.dk.db++w.dk.jour,p∈w.pkgs:=fun p hp=>Classical.byContradiction fun hq=>hn ⟨p,hp,hq⟩
          exact ⟨by assumption,fun hh=>by first | assumption | (simp_all;done),fun p hp=>hm p (List.mem_append_left _ (List.mem_append_left _ hp)),fun p hp=>hm p (List.mem_append_left _ (List.mem_append_right _ hp)),fun p hp=>hm p (List.mem_append_right _ hp)⟩
        · rintro ⟨_,_,h3,h4,h5⟩ ⟨p,hp,hq⟩
          refine hq ?_
          rcases List.mem_append.1 hp with hp | hp
          · exact (List.mem_append.1 hp).elim (h3 p) (h4 p)
          · exact h5 p hp)
   
set_option maxHeartbeats 4000000 in
theorem Nr (w:Wo)(hs:BdW w)(hl:w.store.length≤2000000∧w.dk.db.length≤2000000∧w.dk.jour.length≤2000000):FunOk PP W yN oR [xS w] [bo (decide (WoM w))]:=by
  refine MT (aI ?_)
  (repeat' first
    | (refine run_ite rfl (fun h=>?_) (fun h=>?_)<;>(try simp (disch:=omega) only [zB,eqDs,aW,Nat.reduceAdd,aC] at h)<;>(try (exfalso;omega)))
    | refine aF rfl ?_
    | refine aG rfl ?_
    | refine aA rfl (Ec ..) rfl ?_
    | refine aA rfl (nW w.bad (dH hs.bad)) rfl ?_
    | refine aA rfl (Th w hs (by assumption)) rfl ?_
    | refine aA rfl (Nk w hs (by assumption)) rfl ?_
    | refine aA rfl (zT w.pkgs hs.pkgs.1) rfl ?_
    | refine aA rfl (Na w.tr (dH hs.keys) (dH hs.ms)) rfl ?_
    | refine aA rfl (zT w.store hs.store.1) rfl ?_
    | refine aA rfl (QM w.dk hs.dk.1) rfl ?_
    | refine aA rfl (LQ w hs hl) rfl ?_
    | refine aB rfl ?_ ?_
    | (refine aE rfl ?_;first | refine rb ?_ | refine ri ?_ | refine bC ?_ ?_ | refine bB ?_)
    | refine aD rfl ?_)
  all_goals first
    | exact fD (p:=WoM w) (fun h'=>by
        first | exact h h'.now | exact h h'.bad | exact h h'.roots | exact h h'.ixs | exact h h'.pkgs | (have:=h'.many;omega) | exact h h'.tr | exact h h'.store | exact h h'.dk)
    | exact decide_eq_decide.2 ⟨fun h'=>⟨by assumption,by assumption,by assumption,by assumption,by assumption,by omega,by assumption,by assumption,by assumption,h'.1,h'.2.1,h'.2.2.1,h'.2.2.2.1,h'.2.2.2.2⟩,fun h'=>⟨h'.root,h'.index,h'.ps,h'.pdb,h'.pj⟩⟩
   
end
section
open Classical
variable {W:Wld}

theorem IG {α:Type}{f:α→Int}(hf:∀ x,0≤f x):∀ {l:List α} {x:α},x∈l→f x≤dK f l
  | a::l,x,h=>by
    have h0:=dC hf l
    have h1:=hf a
    simp only [dK,List.map_cons,List.sum_cons] at *
    rcases List.mem_cons.1 h with rfl | h
    · omega
    · have:=IG hf h
      simp only [dK] at this
      omega
theorem LR {w:Wo}(h:ZW w≤1048576):BdW w:=by
  unfold ZW at h
  have n0:=LI w.roots
  have n1:=LJ w.ixs
  have n2:=kM w.pkgs
  have n3:=kM w.store
  have n4:=Qi w.dk
  have n5:=kM w.dk.db
  have n6:=kM w.dk.jour
  have a1:=dC IC w.roots
  have a2:=dC ID w.ixs
  have a3:=dC zU w.pkgs
  have a4:=dC zU w.store
  have a5:=dC zU w.dk.db
  have a6:=dC zU w.dk.jour
  unfold IE sP vJ szD at *
  have hpk:=FU (ps:=w.pkgs) (by omega)
  have hst:=FU (ps:=w.store) (by omega)
  have hdb:=FU (ps:=w.dk.db) (by omega)
  have hjr:=FU (ps:=w.dk.jour) (by omega)
  unfold kI at *
  refine ⟨⟨by omega,fun s hs=>?_⟩,⟨by omega,fun s hs=>?_⟩,⟨hpk,by omega⟩,by omega,by omega,by omega,⟨hst,by omega⟩,⟨⟨hdb,by unfold lim;omega,hjr⟩,by omega,by omega⟩⟩
  · have h1:=IG IC hs
    have h2:cR s=s.keys.length+s.sigs.length:=rfl
    exact ⟨by omega,by omega⟩
  · have h1:=IG ID hs
    have h2:cX s=s.ms.length+s.sigs.length:=rfl
    exact ⟨by omega,by omega⟩
theorem aA7 {w:Wo}(h:ZW w≤1048576):w.store.length≤2000000∧w.dk.db.length≤2000000∧w.dk.jour.length≤2000000:=⟨(LR h).store.2,(LR h).dk.2.1,(LR h).dk.2.2⟩
theorem aA8 (w:Wo):0≤ZW w:=by
  have n0:=LI w.roots
  have n1:=LJ w.ixs
  have n2:=kM w.pkgs
  have n3:=kM w.store
  have n4:=Qi w.dk
  unfold ZW IE
  omega
theorem Tt (w:Wo)(hb:BgW w):FunOk PP W qV kZ [xS w] [bo true]:=by
  refine Ba (aI ?_)
  have f:=Qj (W:=W) w 1048576 (by omega) hb
  have n0:=aA8 w
  by_cases c:1048576<ZW w
  · rw [aX c] at f
    (repeat' first
    | (refine run_ite rfl (fun h=>?_) (fun h=>?_)<;>(try simp (disch:=omega) only [zB,eqDs,aW,Nat.reduceAdd,aC] at h)<;>(try (exfalso;omega)))
    | refine aF rfl ?_
    | refine aG rfl ?_
    | refine aA rfl (f) rfl ?_
    | refine aB rfl ?_ ?_
    | (refine aE rfl ?_;first | refine rb ?_ | refine ri ?_ | refine bC ?_ ?_ | refine bB ?_)
    | refine aD rfl ?_)
    rfl
  · rw [bQ (by omega)] at f
    have hs:=LR (w:=w) (by omega)
    have hl:=aA7 (w:=w) (by omega)
    have g1:=Nj (W:=W) w hs
    have g2:=Nr (W:=W) w hs hl
    generalize decide (WoM w)=B at g1 g2
    (repeat' first
    | (refine run_ite rfl (fun h=>?_) (fun h=>?_)<;>(try simp (disch:=omega) only [zB,eqDs,aW,Nat.reduceAdd,aC] at h)<;>(try (exfalso;omega)))
    | refine aF rfl ?_
    | refine aG rfl ?_
    | refine aA rfl (f) rfl ?_
    | refine aA rfl (To w hs) rfl ?_
    | refine aA rfl (g1) rfl ?_
    | refine aA rfl (g2) rfl ?_
    | refine aA rfl (LN w hs) rfl ?_
    | refine aB rfl ?_ ?_
    | (refine aE rfl ?_;first | refine rb ?_ | refine ri ?_ | refine bC ?_ ?_ | refine bB ?_)
    | refine aD rfl ?_)
    all_goals first | rfl | exact absurd trivial (by assumption) | (simp_all;done)
/-! What comes in. -/
def Wp:Ck:= .int .i64 (.int .i64 (.int .i64 .nil))
def aCm:Ck:= .int .i64 (.sl Wm (.int .i64 (.sl Wm .nil)))
def aCn:Ck:= .int .i64 (.int .i64 (.sl Wp (.sl Wm .nil)))
def aDj:Ck:= .int .i64 (.sl aCm (.sl aCn (.sl Tq (.sl Wm (.int .i64 (.sl Wm (.int .i64 (.bool (.int .i64 (.int .i64 (.sl Wp (.sl Tq (.sl Tq (.sl Wm (.bool (.sl Tq .nil))))))))))))))))
def aDk:Ck:= .int .i64 (.int .i64 (.int .i64 (.int .i64 (.bool (.int .i64 (.int .i64 (.sl Tp (.sl Tp (.int .i64 (.sl Wm (.int .i64 (.sl Wm (.int .i64 (.int .i64 (.sl Wp (.sl Wm .nil))))))))))))))))
theorem Yx {x:List D}(h:conf Wp x):∃ a:Mt,x=eMt a∧True:=by
  obtain ⟨n,_,rfl,_,m,_,rfl,_,s,_,rfl,_,h⟩:=h
  have h:=(show _=[] from h)
  subst h
  exact ⟨⟨n,m,s⟩,rfl,trivial⟩
theorem qF {xs:List (List D)}(hl:xs.length≤maxLen)(h:∀ x∈xs,conf Wm x):∃ l:List Int,xs=l.map i64∧(l.length:Int)≤mx:=by
  obtain ⟨l,rfl,_⟩:=jN (fun x hx=>aA6 (h x hx))
  rw [List.length_map] at hl
  exact ⟨l,rfl,Ej hl⟩
theorem IH {xs:List (List D)}(hl:xs.length≤maxLen)(h:∀ x∈xs,conf Wp x):∃ l:List Mt,xs=l.map eMt∧(l.length:Int)≤mx:=by
  obtain ⟨l,rfl,_⟩:=jN (fun x hx=>Yx (h x hx))
  rw [List.length_map] at hl
  exact ⟨l,rfl,Ej hl⟩
theorem Nt {xs:List (List D)}(hl:xs.length≤maxLen)(h:∀ x∈xs,conf Tp x):∃ l:List P2,xs=l.map eP2∧(l.length:Int)≤mx:=by
  obtain ⟨l,rfl,_⟩:=jN (fun x hx=>LO (h x hx))
  rw [List.length_map] at hl
  exact ⟨l,rfl,Ej hl⟩
theorem Yy {x:List D}(h:conf aCm x):∃ s:SR,x=eSR s∧BgR s:=by
  obtain ⟨n,_,rfl,_,ks,_,rfl,a1,a2,m,_,rfl,_,bs,_,rfl,b1,b2,h⟩:=h
  have h:=(show _=[] from h)
  subst h
  obtain ⟨ks,rfl,h1⟩:=qF a1 a2
  obtain ⟨bs,rfl,h2⟩:=qF b1 b2
  exact ⟨⟨n,ks,m,bs⟩,rfl,h1,h2⟩
theorem Yz {x:List D}(h:conf aCn x):∃ s:SX,x=eSX s∧BgX s:=by
  obtain ⟨n,_,rfl,_,m,_,rfl,_,ks,_,rfl,a1,a2,bs,_,rfl,b1,b2,h⟩:=h
  have h:=(show _=[] from h)
  subst h
  obtain ⟨ks,rfl,h1⟩:=IH a1 a2
  obtain ⟨bs,rfl,h2⟩:=qF b1 b2
  exact ⟨⟨n,m,ks,bs⟩,rfl,h1,h2⟩
theorem aC0 {x:List D}(h:conf aDj x):∃ w:Wo,x=xS w∧BgW w:=by
  obtain ⟨now,_,rfl,_,rs,_,rfl,a1,a2,xs,_,rfl,b1,b2,ps,_,rfl,c1,c2,bad,_,rfl,d1,d2,n,_,rfl,_,ks,_,rfl,e1,e2,m,_,rfl,_,has,_,rfl,xn,_,rfl,_,xt,_,rfl,_,ms,_,rfl,f1,f2,st,_,rfl,g1,g2,db,_,rfl,h1,h2,fs,_,rfl,i1,i2,dh,_,rfl,jr,_,rfl,j1,j2,h⟩:=h
  have h:=(show _=[] from h)
  subst h
  obtain ⟨rs,rfl,q1⟩:=jN (fun x hx=>Yy (a2 x hx))
  obtain ⟨xs,rfl,q2⟩:=jN (fun x hx=>Yz (b2 x hx))
  obtain ⟨ps,rfl,q3⟩:=Cl c1 c2
  obtain ⟨bad,rfl,q4⟩:=qF d1 d2
  obtain ⟨ks,rfl,q5⟩:=qF e1 e2
  obtain ⟨ms,rfl,q6⟩:=IH f1 f2
  obtain ⟨st,rfl,q7⟩:=Cl g1 g2
  obtain ⟨db,rfl,q8⟩:=Cl h1 h2
  obtain ⟨fs,rfl,q9⟩:=qF i1 i2
  obtain ⟨jr,rfl,q10⟩:=Cl j1 j2
  rw [List.length_map] at a1 b1
  exact ⟨⟨now,rs,xs,ps,bad,⟨⟨n,ks,m⟩,has,⟨xn,xt,ms⟩⟩,st,⟨db,fs,dh,jr⟩⟩,rfl,⟨⟨Ej a1,q1⟩,⟨Ej b1,q2⟩,q3,q4,q5,q6,q7,⟨q8,q9,q10⟩⟩⟩
theorem aC1 {x:List D}(h:conf aDk x):∃ e:Vt,x=LS e∧BgV e:=by
  obtain ⟨k,_,rfl,_,a,_,rfl,_,b,_,rfl,_,c,_,rfl,_,tn,_,rfl,pn,_,rfl,_,pv,_,rfl,_,fs,_,rfl,a1,a2,ds,_,rfl,b1,b2,rn,_,rfl,_,ks,_,rfl,c1,c2,nd,_,rfl,_,bs,_,rfl,d1,d2,xn,_,rfl,_,xt,_,rfl,_,ms,_,rfl,e1,e2,xb,_,rfl,f1,f2,h⟩:=h
  have h:=(show _=[] from h)
  subst h
  obtain ⟨fs,rfl,q1⟩:=Nt a1 a2
  obtain ⟨ds,rfl,q2⟩:=Nt b1 b2
  obtain ⟨ks,rfl,q3⟩:=qF c1 c2
  obtain ⟨bs,rfl,q4⟩:=qF d1 d2
  obtain ⟨ms,rfl,q5⟩:=IH e1 e2
  obtain ⟨xb,rfl,q6⟩:=qF f1 f2
  exact ⟨⟨k,a,b,c,tn,⟨pn,pv,fs,ds⟩,⟨rn,ks,nd,bs⟩,⟨xn,xt,ms,xb⟩⟩,rfl,⟨⟨q1,q2⟩,⟨q3,q4⟩,⟨q5,q6⟩⟩⟩
end
end V
end Go.Proofs.YtgekfemnjphmbaaGreat
