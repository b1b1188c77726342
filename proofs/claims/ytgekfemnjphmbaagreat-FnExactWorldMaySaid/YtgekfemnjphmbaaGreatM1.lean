/-
Part 1 of the proof of the claimed statement (its last part holds the theorem, and says what is proved). Conditions: none.
-/
import Derived.Test.YtgekfemnjphmbaaGreatM0
import Derived.Laws.Tables
import Derived.Laws.MakeOwn
import Derived.Lib.ConvBytes
import Derived.Laws.AppendOwn
set_option linter.all false
set_option maxRecDepth 100000
/-
What is moved into a slot: assignments, boxes, structs.
-/
namespace Go.Proofs.YtgekfemnjphmbaaGreat
namespace V
section

def xN (P:Program)(cx:Cx)(own:Own)(w:World)(a:Act)(env:Env)(o:Oper)(u:Up)(env':Env):Prop:=
 ∀ (K:Act→World→Prop) (Q:Exit→Act→World→Prop),(∀ own' w' a',Done cx own w a env u own' w' a' env'→K a' w')→o.wp P a w K Q

theorem nM.opOk {P:Program}{cx:Cx}{own:Own}{w:World}{a:Act}{env env':Env}{o:Oper}{u:Up}(h:nM P cx own w a env o u env'):xN P cx own w a env o u env':=by
 intro K Q hK
 obtain ⟨v,own',w',hr,hd⟩:=h
 unfold Oper.wp
 rw [hr]
 exact hK own' w' _ hd

theorem jL.opOk {P:Program}{cx:Cx}{own:Own}{w:World}{a:Act}{env env':Env}{o:Oper}{u:Up}(h:jL P cx own w a env o u env'):xN P cx own w a env o u env':=h.runs.opOk

theorem NM {w:World}{cx:Cx}{own:Own}{c:CS}(h:Ss c=false){s i s' i':Nat}{x:D}{v:Value}(hc:CellIs w cx own s i c x v):CellIs w cx own s' i' c x v:=by
 cases c<;>first | exact hc | cases h

theorem mI {ag:Bool}{vs:List Value}(h2:ag=false→vs.length=1)(hc:∀ (i:Nat) (v:Value),vs[i]? =some v→Cell1 v):(wrapV ag vs).cells=vs.toArray:=by
 cases ag with
 | true=>rfl
 | false=>
  have hl:=h2 rfl
  match vs,hl with
  | [v],_=>
   have hv:=hc 0 v rfl
   simp only [wrapV]
   unfold Value.cells
   split
   ·rename_i e;exact absurd rfl (hv.1 _)
   ·rfl

def Wh (w:World)(cx:Cx)(own:Own)(aas:List Aff)(dd pos:Nat)(c:CS)(x:D)(v:Value):Prop:=
 Cell1 v∧((∃ a∈aas,a.to= .al dd pos a.m a.f∧c= .o a.m a.f∧OwnRep w cx own (a.h,a.i+1) a.m a.f x v)∨(Ss c=false∧CellIs w cx own 0 0 c x v))

section
variable {w0:World}{own0:Own}{cx:Cx}{own own':Own}{w w':World}{env env':Env}{tv tv':Nat→Value}{u:Up}

theorem Wh.mono {aas bs:List Aff}{dd pos:Nat}{c:CS}{x:D}{v:Value}(h:Wh w cx own aas dd pos c x v)(hs:∀ a∈aas,a∈bs):Wh w cx own bs dd pos c x v:=
 ⟨h.1,h.2.imp (fun ⟨a,ha,h⟩=>⟨a,hs a ha,h⟩) id⟩

theorem Wh.ok {A:Nat×Nat→Prop}{W:Nat→Prop}{dd':Option Nat}(st:Step cx own w env tv A W dd' own' w' env' tv')(af:AffOk cx own w u own' w'){aas:List Aff}{dd pos:Nat}{c:CS}{x:D}{v:Value}
  (h:Wh w cx own aas dd pos c x v)(hs:∀ a∈aas,a∈u.aff):aS w' cx own' dd pos c x v:=by
 refine ⟨h.1,?_⟩
 rcases h.2 with ⟨a,ha,hto,rfl,ho⟩ | ⟨hc,hi⟩
 ·have:=af.to a (hs a ha) x v ho dd pos
  rw [hto] at this
  exact this
 ·cases c with
  | n=>exact hi
  | s=>exact hi
  | r=>exact st.rs hi
  | b=>exact st.bs hi
  | x=>trivial
  | o m f=>cases hc
  | al h k m f=>cases hc

theorem DK {s d:Nat}{ds:List D}{vs:List Value}:∀ {cs:List CS} {i j:Nat} {aas:List Aff} {cs':List CS},wC s d cs i j=some (aas,cs')→
  (∀ (k:Nat) (c:CS) (x:D) (v:Value),cs[k]? =some c→ds[i+k]? =some x→vs[i+k]? =some v→aS w cx own s (i+k) c x v)→
  cs'.length=cs.length∧(∀ a∈aas,dL a∧(∃ k m f,a.to= .al d (j+k) m f∧k<cs.length)∧a.h≠d)∧∀ (k:Nat) (c:CS) (x:D) (v:Value),cs'[k]? =some c→ds[i+k]? =some x→vs[i+k]? =some v→Wh w cx own aas d (j+k) c x v
 | [],i,j,aas,cs',h,_=>by
  simp only [wC,Option.some.injEq,Prod.mk.injEq] at h
  obtain ⟨rfl,rfl⟩:=h
  exact ⟨rfl,fun a ha=>by simp at ha,fun k c x v hc=>by simp at hc⟩
 | c0::r,i,j,aas,cs',h,hc=>by
  simp only [wC] at h
  split at h
  ·cases h
  rename_i as1 cs1 hm
  obtain ⟨h1,h2,h3⟩:=DK hm (fun k c x v hk hx hv=>by
   have:=hc (k+1) c x v (by simpa using hk) (by rw [←hx];congr 1;omega) (by rw [←hv];congr 1;omega)
   rwa [show i+(k+1)=i+1+k from by omega] at this)
  have h2':∀ a∈as1,dL a∧(∃ k m f,a.to= .al d (j+k) m f∧k<(c0::r).length)∧a.h≠d:=fun a ha=>by
   obtain ⟨p1,⟨k,m,f,p2,p3⟩,p4⟩:=h2 a ha
   exact ⟨p1,⟨k+1,m,f,by rw [p2];congr 1;omega,by simp;omega⟩,p4⟩
  have tail:∀ {bs:List Aff} {c1:CS},(∀ a∈as1,a∈bs)→(∀ (x:D) (v:Value),ds[i]? =some x→vs[i]? =some v→Wh w cx own bs d j c1 x v)→
    ∀ (k:Nat) (c:CS) (x:D) (v:Value),(c1::cs1)[k]? =some c→ds[i+k]? =some x→vs[i+k]? =some v→Wh w cx own bs d (j+k) c x v:=by
   intro bs c1 hs hz k c x v hk hx hv
   cases k with
   | zero=>
    simp only [List.getElem?_cons_zero,Option.some.injEq] at hk
    subst hk
    exact hz x v hx hv
   | succ k=>
    have:=(h3 k c x v (by simpa using hk) (by rw [←hx];congr 1;omega) (by rw [←hv];congr 1;omega)).mono hs
    rwa [show j+1+k=j+(k+1) from by omega] at this
  split at h
  ·rename_i hown
   split at h
   ·rename_i hh k m f ho
    split at h
    ·cases h
    ·rename_i hd
     simp only [Option.some.injEq,Prod.mk.injEq] at h
     obtain ⟨rfl,rfl⟩:=h
     refine ⟨by simp [h1],fun a ha=>?_,tail (fun a ha=>List.mem_cons_of_mem _ ha) (fun x v hx hv=>?_)⟩
     ·rcases List.mem_cons.1 ha with rfl | ha
      ·exact ⟨⟨rfl,.inl ⟨d,j,rfl⟩⟩,⟨0,m,f,rfl,by simp⟩,hd⟩
      ·exact h2' a ha
     ·have hcell:=hc 0 c0 x v rfl hx hv
      refine ⟨hcell.1,.inl ⟨_,List.mem_cons_self ..,rfl,rfl,?_⟩⟩
      have h5:=hcell.2
      simp only [Nat.add_zero] at h5
      cases c0<;>simp only [KP,Option.some.injEq,Prod.mk.injEq,reduceCtorEq] at ho
      ·obtain ⟨rfl,rfl,rfl,rfl⟩:=ho
       exact h5
      ·obtain ⟨rfl,rfl,rfl,rfl⟩:=ho
       exact h5
   ·cases h
  ·rename_i hown
   simp only [Bool.not_eq_true] at hown
   simp only [Option.some.injEq,Prod.mk.injEq] at h
   obtain ⟨rfl,rfl⟩:=h
   refine ⟨by simp [h1],h2',tail (fun a ha=>ha) (fun x v hx hv=>?_)⟩
   have hcell:=hc 0 c0 x v rfl hx hv
   exact ⟨hcell.1,.inr ⟨hown,NM hown hcell.2⟩⟩

theorem uS {a:Act}{L:Look}{g:Gd}(hL:∀ z,SlotOk w cx own env (tvA a) z (L z))(hg:∀ gs b,g=some (gs,b)→env gs=[.bool b]){d j:Nat}{x:Operand}{aas:List Aff}{ag:Bool}{cs:List CS}(h:pY L g d j x=some (aas,ag,cs)):
  ∃ vs,a.eval x=wrapV ag vs∧(ag=false→vs.length=1)∧cs.length=((cC x).get env).length∧vs.length=((cC x).get env).length∧(∀ a∈aas,dL a∧(∃ k m f,a.to= .al d (j+k) m f∧k<cs.length)∧a.h≠d)∧(∀ t,x= .tmp t→t≠d)∧
   ∀ (k:Nat) (c:CS) (y:D) (v:Value),cs[k]? =some c→((cC x).get env)[k]? =some y→vs[k]? =some v→Wh w cx own aas d (j+k) c y v:=by
 unfold pY at h
 split at h
 ·rename_i v
  split at h
  ·rename_i hk
   simp only [Option.some.injEq,Prod.mk.injEq] at h
   obtain ⟨rfl,rfl,rfl⟩:=h
   refine ⟨[v],rfl,fun _=>rfl,rfl,rfl,fun a ha=>by simp at ha,fun t ht=>by simp at ht,fun k c y u hc hy hu=>?_⟩
   cases k with
   | zero=>
    simp only [List.getElem?_cons_zero,Option.some.injEq] at hc hu
    simp only [cC,Opd.get,List.getElem?_cons_zero,Option.some.injEq] at hy
    subst hc;subst hu;subst hy
    have:=wI (w:=w) (cx:=cx) (own:=own) hk 0 0
    refine ⟨this.1,.inr ⟨?_,this.2⟩⟩
    unfold hY
    split<;>rfl
   | succ k=>simp at hc
  ·cases h
 ·rename_i s
  have hs:=eV hL hg s
  split at h
  ·rename_i ag' cs0 he
   rw [he] at hs
   split at h
   ·cases h
   rename_i hsd
   split at h
   ·rename_i as0 cs1 hm
    simp only [Option.some.injEq,Prod.mk.injEq] at h
    obtain ⟨rfl,rfl,rfl⟩:=h
    obtain ⟨vs,h1,h2,h3,h4,h5⟩:=hs
    obtain ⟨k1,k2,k3⟩:=DK (ds:=env s) (vs:=vs) hm (fun k c x v hc hx hv=>by
     rw [Nat.zero_add] at hx hv ⊢
     exact h5 k c x v hc hx hv)
    refine ⟨vs,h1,h2,k1.trans h3,h4,by rw [k1];exact k2,fun t ht=>?_,fun k c y v hc hy hv=>?_⟩
    ·cases ht;exact hsd
    ·exact k3 k c y v hc (by rw [Nat.zero_add];exact hy) (by rw [Nat.zero_add];exact hv)
   ·cases h
  ·cases h
 ·cases h

theorem HeapOk.same_world (own:Own)(w:World)(u:Up):HeapOk own w w u (fun _=>False):=
 ⟨rfl,rfl,rfl,Nat.le_refl _,fun _ _ _=>rfl,fun _ h=>h.elim,fun _ _ h=>h.elim,fun _ _ _ h=>h.elim⟩

theorem HeapOk.alloc (own:Own)(w:World)(u:Up)(o:Obj):HeapOk own w (w.alloc o) u (fun _=>False):=
 ⟨rfl,rfl,rfl,by show _≤(w.heap.push o).size;simp,fun g hg _=>heap_alloc_old w o g hg,fun _ h=>h.elim,fun _ _ h=>h.elim,fun _ _ _ h=>h.elim⟩

theorem fG {a a':Act}(hw:WOk w0 own0 cx own w){nb:Option OI}{gb:Nat→Prop}(hh:HeapOk own w w' u gb)(hgb:∀ g i,gb g→own g=some i→i.leaf.2=0∨∃ a∈u.aff,xM a∧i.leaf=(a.h,a.i+1))(hnd:bE u.aff=true)(hm:∀ a∈u.aff,dL a∨(xM a∧u.W a.h))
  (hnb:∀ k,nb=some k→w.heap.size<w'.heap.size∧u.isDst k.leaf.1=true∧(k.leaf.2=0∨∀ a∈u.aff,∀ d j m f,a.to≠ .al d j m f))
  (henv:∀ s,¬u.W s→env' s=env s)(htv:∀ s,u.d≠some s→tvA a' s=tvA a s)(hsz:a'.tmps.size=a.tmps.size)(hdf:a'.defers=a.defers)
  (hs:Step cx own w env (tvA a) u.A u.W u.d (aU own (aX u) w.heap.size nb) w' env' (tvA a')→AffOk cx own w u (aU own (aX u) w.heap.size nb) w'→
   (∀ p∈u.bx,u.isDst p.1=false→SlotOk w' cx (aU own (aX u) w.heap.size nb) env' (tvA a') p.1 p.2)∧
   (∀ d sh,u.dst=some (d,sh)→SlotOk w' cx (aU own (aX u) w.heap.size nb) env' (tvA a') d sh)):
  Done cx own w a env u (aU own (aX u) w.heap.size nb) w' a' env':=by
 have st:=Wg hw hh hnd hnb henv htv
 have af:=UN hw hh hgb hnd hm st
 obtain ⟨h1,h2⟩:=hs st af
 exact ⟨st,af,h1,h2,hsz,hdf⟩

end

section
variable {P:Program}{C:Cfg}{w0:World}{own0:Own}{cx:Cx}{own:Own}{w:World}{a:Act}{env env':Env}{L:Look}{g:Gd}{o:Oper}{u:Up}{p:PS}{d:Nat}

theorem eB {aas:List Aff}{d:Nat}{sh:Sh}{s:Nat}(h:¬Up.W ⟨aas,[],some (d,sh)⟩ s):s≠d:=by
 rintro rfl
 exact h (.inl (Nat.beq_refl _))

theorem rR {aas:List Aff}{bx:List (Nat×Sh)}{d:Nat}{sh:Sh}{s:Nat}(h:Up.d ⟨aas,bx,some (d,sh)⟩≠some s):s≠d:=by
 rintro rfl
 exact h rfl

variable (hC:CfgOk P C)(hw:WOk w0 own0 cx own w)(hL:∀ z,SlotOk w cx own env (tvA a) z (L z))(hg:∀ gs b,g=some (gs,b)→env gs=[.bool b])
 (hod:o.dst=some d)(hd:d<a.tmps.size)(hn:∀ d sh,u.dst=some (d,sh)→sh.names d=false)(hp:pstep p env=some env')
include hw hL hg hod hd hn hp

theorem UO {x:Operand}(ho:o.op= .assign x)(hc:Le L g d x=some (u,p)):nM P cx own w a env o u env':=by
 have hr:=wK (P:=P) (w:=w) (a:=a) x (.inr ho)
 unfold Le at hc
 split at hc
 ·split at hc
  ·split at hc
   ·rename_i aas ag cs' hpc
    split at hc
    ·rename_i hnd
     simp only [Option.some.injEq,Prod.mk.injEq] at hc
     obtain ⟨rfl,rfl⟩:=hc
     simp only [pstep,Option.some.injEq] at hp
     subst hp
     obtain ⟨vs,h1,h2,h3,h4,h5,h6,h7⟩:=uS hL hg hpc
     refine ⟨a.eval x,aU own (aX {aff:=aas,dst:=some (d,.v ag cs') }) w.heap.size none,w,hr,?_⟩
     rw [hod]
     refine fG (nb:=none) hw (HeapOk.same_world own w _) (fun g i h=>h.elim) hnd (fun a ha=> .inl (h5 a ha).1) (fun k hk=>by cases hk)
      (fun s hs=>cY _ _ _ _ (eB hs)) (fun s hs=>by rw [aQ a d _ hd,if_neg (rR hs)]) (by simp [Act.put]) rfl (fun st af=>⟨fun p hp=>by simp at hp,fun d' sh' he=>?_⟩)
     simp only [Option.some.injEq,Prod.mk.injEq] at he
     obtain ⟨rfl,rfl⟩:=he
     refine ⟨vs,?_,h2,?_⟩
     ·rw [aQ a d _ hd,if_pos rfl];exact h1
     ·rw [aI]
      refine ⟨h3,h4,fun k c y v hc hy hv=>?_⟩
      have:=h7 k c y v hc hy hv
      rw [Nat.zero_add] at this
      exact this.ok st af (fun a ha=>ha)
    ·cases hc
   ·cases hc
  ·exact (BA hw hL hg hod hd hn hp (fun w2=>wK (w:=w2) x (.inr ho)) hc).runs
 ·exact (BA hw hL hg hod hd hn hp (fun w2=>wK (w:=w2) x (.inr ho)) hc).runs

include hC in
theorem ZJ {t:TypeId}{x:Operand}(ho:o.op= .box t x)(hc:WI C L g d t x=some (u,p)):nM P cx own w a env o u env':=by
 unfold WI at hc
 split at hc
 rotate_left
 ·cases hc
 rename_i ti s hti
 have hs:=eV hL hg s
 split at hc
 rotate_left
 ·cases hc
 rename_i ag cs he
 rw [he] at hs
 split at hc
 rotate_left
 ·cases hc
 rename_i hk
 obtain ⟨hk1,hk2,hk3⟩:=hk
 simp only [Option.some.injEq,Prod.mk.injEq] at hc
 obtain ⟨rfl,rfl⟩:=hc
 simp only [pstep,Option.some.injEq,Opd.get] at hp
 subst hp
 obtain ⟨vs,h1,h2,h3⟩:=hs
 have hcells:(a.eval (.tmp s)).cells=vs.toArray:=by
  rw [zY,h1]
  refine mI h2 (fun i v hv=>?_)
  have hi:i<vs.length:=(List.getElem?_eq_some_iff.1 hv).1
  have hic:i<cs.length:=by rw [h3.1,←h3.2.1];exact hi
  have hie:i<(env s).length:=by rw [←h3.2.1];exact hi
  exact (h3.2.2 i _ _ v (List.getElem?_eq_getElem hic) (List.getElem?_eq_getElem hie) hv).1
 have hr:(execOp a.eval o).run P w= .ok (.value (.pointer (some ⟨w.heap.size,0,none⟩))) (w.alloc (.cells vs.toArray t)):=by
  unfold execOp
  simp only [ho,Instr.box,newVar,newRow,newObj,hcells,Sem.run_bind]
  rfl
 refine ⟨_,aU own (aX {dst:=some (d,.box false (alias s cs 0)) }) w.heap.size (some ⟨(d,0),[],some 0⟩),_,hr,?_⟩
 rw [hod]
 refine fG (nb:=some ⟨(d,0),[],some 0⟩) hw (HeapOk.alloc own w _ _) (fun g i h=>h.elim) rfl (fun a ha=>by simp at ha) (fun k hk=>?_)
  (fun s hs=>cY _ _ _ _ (eB hs)) (fun s hs=>by rw [aQ a d _ hd,if_neg (rR hs)]) (by simp [Act.put]) rfl (fun st af=>⟨fun p hp=>by simp at hp,fun d' sh' he=>?_⟩)
 ·simp only [Option.some.injEq] at hk
  subst hk
  exact ⟨by show _<(w.heap.push _).size;simp,Nat.beq_refl _,.inl rfl⟩
 ·simp only [Option.some.injEq,Prod.mk.injEq] at he
  obtain ⟨rfl,rfl⟩:=he
  have hal:All3 (aS w cx own d) (alias s cs 0) (env s) vs:=All3.alias (n:=0) (by
   refine ⟨h3.1,h3.2.1,fun i c x v hc hx hv=>?_⟩
   show aS w cx own s (0+i) c x v
   rw [Nat.zero_add]
   exact h3.2.2 i c x v hc hx hv)
  refine ⟨w.heap.size,vs.toArray,t,?_,heap_alloc_new w _,?_,?_⟩
  ·rw [aQ a d _ hd,if_pos rfl]
  ·rw [aI]
   refine ⟨hal.1,hal.2.1,fun i c x v hc hx hv=>?_⟩
   refine Gr st (fun lf h=>aB2 lf h) ?_ ?_ (hal.2.2 i c x v hc hx hv)
   ·have:=List.any_eq_false.1 hk3 c (List.mem_of_getElem? hc)
    simpa using this
   ·exact sH s cs 0 c (List.mem_of_getElem? hc)
  ·simp [aU]

include hC in
theorem aCw {t:TypeId}{x:Operand}(ho:o.op= .box t x)(hc:aCj C L g d t x=some (u,p)):nM P cx own w a env o u env':=by
 unfold aCj at hc
 split at hc
 ·rename_i r hr
  split at hr
  ·simp only [Option.some.injEq] at hc
   subst hc
   exact ZJ hC hw hL hg hod hd hn hp ho hr
  ·cases hr
 split at hc
 ·rename_i ti aas ag cs' hti hpc
  split at hc
  ·rename_i hk
   obtain ⟨hk1,hk2,hnd⟩:=hk
   simp only [Option.some.injEq,Prod.mk.injEq] at hc
   obtain ⟨rfl,rfl⟩:=hc
   simp only [pstep,Option.some.injEq] at hp
   subst hp
   obtain ⟨vs,h1,h2,h3,h4,h5,h6,h7⟩:=uS hL hg hpc
   have hcells:(a.eval x).cells=vs.toArray:=by
    rw [h1]
    cases ag with
    | true=>rfl
    | false=>
     have hl:=h2 rfl
     match vs,hl with
     | [v],_=>
      have hv:Cell1 v:=by
       have hl3:((cC x).get env).length=1:=by rw [←h4];rfl
       have hl4:cs'.length=1:=by rw [h3,hl3]
       match cs',(cC x).get env,hl4,hl3,h7 with
       | [c],[y],_,_,h7=>exact (h7 0 c y v rfl rfl rfl).1
      simp only [wrapV]
      unfold Value.cells
      split
      ·rename_i e;exact absurd rfl (hv.1 _)
      ·rfl
   have hr:(execOp a.eval o).run P w= .ok (.value (.pointer (some ⟨w.heap.size,0,none⟩))) (w.alloc (.cells vs.toArray t)):=by
    unfold execOp
    simp only [ho,Instr.box,newVar,newRow,newObj,hcells,Sem.run_bind]
    rfl
   refine ⟨_,aU own (aX {aff:=aas,dst:=some (d,.box false cs') }) w.heap.size (some ⟨(d,0),[],some 0⟩),_,hr,?_⟩
   rw [hod]
   refine fG (nb:=some ⟨(d,0),[],some 0⟩) hw (HeapOk.alloc own w _ _) (fun g i h=>h.elim) hnd (fun a ha=> .inl (h5 a ha).1) (fun k hk=>?_)
    (fun s hs=>cY _ _ _ _ (eB hs)) (fun s hs=>by rw [aQ a d _ hd,if_neg (rR hs)]) (by simp [Act.put]) rfl (fun st af=>⟨fun p hp=>by simp at hp,fun d' sh' he=>?_⟩)
   ·simp only [Option.some.injEq] at hk
    subst hk
    exact ⟨by show _<(w.heap.push _).size;simp,Nat.beq_refl _,.inl rfl⟩
   ·simp only [Option.some.injEq,Prod.mk.injEq] at he
    obtain ⟨rfl,rfl⟩:=he
    refine ⟨w.heap.size,vs.toArray,t,?_,heap_alloc_new w _,?_,?_⟩
    ·rw [aQ a d _ hd,if_pos rfl]
    ·rw [aI]
     refine ⟨h3,h4,fun k c y v hc hy hv=>?_⟩
     have:=h7 k c y v hc hy hv
     rw [Nat.zero_add] at this
     exact this.ok st af (fun a ha=>ha)
    ·simp [aU]
  ·cases hc
 ·cases hc

omit hL hg in
include hC in
theorem Wi {t:TypeId}(ho:o.op= .alloc t)(hc:Pu C d t=some (u,p)):nM P cx own w a env o u env':=by
 unfold Pu at hc
 split at hc
 ·rename_i ti hti
  simp only [bS,Option.some.injEq,Prod.mk.injEq] at hc
  obtain ⟨rfl,rfl⟩:=hc
  simp only [pstep,DA,Option.some.injEq] at hp
  subst hp
  obtain ⟨z,hz1,hz2,hz3⟩:=(hC t ti hti).zeroV w
  have hr:(execOp a.eval o).run P w= .ok (.value (.pointer (some ⟨w.heap.size,0,none⟩))) (w.alloc (.cells z.cells t)):=by
   unfold execOp
   simp only [ho,Instr.alloc,newVar,newRow,newObj,Sem.run_bind,hz1,Result.andThen_ok]
   rfl
  refine ⟨_,aU own (aX {dst:=some (d,.box false (La ti.zero)) }) w.heap.size (some ⟨(d,0),[],some 0⟩),_,hr,?_⟩
  rw [hod]
  refine fG (nb:=some ⟨(d,0),[],some 0⟩) hw (HeapOk.alloc own w _ _) (fun g i h=>h.elim) rfl (fun a ha=>by simp at ha) (fun k hk=>?_)
   (fun s hs=>cY _ _ _ _ (eB hs)) (fun s hs=>by rw [aQ a d _ hd,if_neg (rR hs)]) (by simp [Act.put]) rfl (fun st af=>⟨fun p hp=>by simp at hp,fun d' sh' he=>?_⟩)
  ·simp only [Option.some.injEq] at hk
   subst hk
   exact ⟨by show _<(w.heap.push _).size;simp,Nat.beq_refl _,.inl rfl⟩
  ·simp only [Option.some.injEq,Prod.mk.injEq] at he
   obtain ⟨rfl,rfl⟩:=he
   refine ⟨w.heap.size,z.cells,t,?_,heap_alloc_new w _,?_,?_⟩
   ·rw [aQ a d _ hd,if_pos rfl]
   ·rw [aI]
    refine ⟨by simp [La],mV hz2,fun k c y v hc hy hv=>?_⟩
    unfold La at hc
    rw [List.getElem?_map,hy] at hc
    simp only [Option.map_some,Option.some.injEq] at hc
    subst hc
    exact xI (mW hz2 hy hv) _ _ _ _ _
   ·simp [aU]
 ·cases hc

end

end
section

theorem Kb (off:Nat):∀ (vs:List Value) (k:Nat) (cells:Array Value),off+k+vs.length≤cells.size→
  ((vs.zipIdx k).foldl (fun (cs:Array Value) (p:Value×Nat)=>cs.setIfInBounds (off+p.2) p.1) cells).toList=cells.toList.take (off+k)++vs++cells.toList.drop (off+k+vs.length)
 | [],k,cells,h=>by simp
 | v::vs,k,cells,h=>by
  simp only [List.zipIdx_cons,List.foldl_cons]
  simp only [List.length_cons] at h
  rw [Kb off vs (k+1) _ (by simp;omega)]
  have hlt:off+k<cells.toList.length:=by simp;omega
  simp only [Array.toList_setIfInBounds,List.length_cons]
  rw [show off+(k+1)=off+k+1 from by omega]
  have e1:(cells.toList.set (off+k) v).take (off+k+1)=cells.toList.take (off+k)++[v]:=by
   rw [List.take_succ,List.take_set_of_le (Nat.le_refl _),List.getElem?_set_self hlt]
   rfl
  have e2:(cells.toList.set (off+k) v).drop (off+k+1+vs.length)=cells.toList.drop (off+k+(vs.length+1)):=by
   rw [List.drop_set_of_lt (by omega)]
   congr 1
   omega
  rw [e1,e2]
  simp

theorem Kc (place:Nat→Option (Nat×Nat)){k off n:Nat}(hp:place k=some (off,n)){v:Value}{vs:List Value}(hv:v.cells=vs.toArray)(hl:vs.length=n){cells:List Value}(hb:off+n≤cells.length)(rest:List (Nat×Value)):
  Instr.fill place cells.toArray ((k,v)::rest)=Instr.fill place (cells.take off++vs++cells.drop (off+n)).toArray rest:=by
 have h1:(v.cells.size≠n||off+v.cells.size>cells.toArray.size)=false:=by
  rw [hv]
  simp [hl,hb]
 have h2:(v.cells.zipIdx.foldl (fun cs (c,j)=>cs.setIfInBounds (off+j) c) cells.toArray)=(cells.take off++vs++cells.drop (off+n)).toArray:=by
  apply Array.ext'
  have:=Kb off vs 0 cells.toArray (by simp;omega)
  rw [hv,←Array.foldl_toList]
  simp only [Array.toList_zipIdx]
  rw [show (fun (cs:Array Value) (x:Value×Nat)=>match x with | (c,j)=>cs.setIfInBounds (off+j) c)=(fun (cs:Array Value) (p:Value×Nat)=>cs.setIfInBounds (off+p.2) p.1) from rfl]
  rw [this]
  simp [hl]
 rw [Instr.fill,hp]
 simp only [h1,Bool.false_eq_true,if_false]
 rw [h2]

theorem dA {α:Type}{c xs:List α}{off:Nat}(h:off+xs.length≤c.length)(k:Nat):
  (c.take off++xs++c.drop (off+xs.length))[k]? =if k<off then c[k]? else if k<off+xs.length then xs[k - off]? else c[k]? :=by
 have hl:(c.take off).length=off:=by rw [List.length_take];omega
 by_cases h1:k<off
 ·rw [if_pos h1,List.append_assoc,List.getElem?_append_left (by omega),List.getElem?_take,if_pos h1]
 ·rw [if_neg h1]
  by_cases h2:k<off+xs.length
  ·rw [if_pos h2,List.append_assoc,List.getElem?_append_right (by omega),List.getElem?_append_left (by omega),hl]
  ·rw [if_neg h2,List.getElem?_append_right (by rw [List.length_append];omega),List.getElem?_drop]
   congr 1
   rw [List.length_append]
   omega

theorem bQ {α:Type}{c xs:List α}{off:Nat}(h:off+xs.length≤c.length):(c.take off++xs++c.drop (off+xs.length)).length=c.length:=by
 simp only [List.length_append,List.length_take,List.length_drop]
 omega

section
variable {P:Program}{C:Cfg}{w0:World}{own0:Own}{cx:Cx}{own:Own}{w:World}{a:Act}{env env':Env}{L:Look}{g:Gd}{o:Oper}{u:Up}{p:PS}{d:Nat}

theorem NN (hL:∀ z,SlotOk w cx own env (tvA a) z (L z))(hg:∀ gs b,g=some (gs,b)→env gs=[.bool b]){t:Nat}{place:Nat→Option (Nat×Nat)}(hpl:∀ k off n,C.place t k=some (off,n)→place k=some (off,n)):
  ∀ {parts:List (Nat×Operand)} {cs cs2:List CS} {aas as0:List Aff} {ps:List (Nat×Opd)} {ds:List D} {vs:List Value},HI C L g d t cs parts=some (aas,cs2,ps)→
   cs.length=ds.length→vs.length=ds.length→(∀ (k:Nat) (c:CS) (x:D) (v:Value),cs[k]? =some c→ds[k]? =some x→vs[k]? =some v→Wh w cx own as0 d k c x v)→
   ∃ vs2:List Value,Instr.fill place vs.toArray (parts.map fun p=>(p.1,a.eval p.2))=some vs2.toArray∧cs2.length=(DA env ds ps).length∧vs2.length=(DA env ds ps).length∧
    (∀ a∈aas,dL a)∧(∀ (k:Nat) (c:CS) (x:D) (v:Value),cs2[k]? =some c→(DA env ds ps)[k]? =some x→vs2[k]? =some v→Wh w cx own (as0++aas) d k c x v)
 | [],cs,cs2,aas,as0,ps,ds,vs,h,h1,h2,h3=>by
  simp only [HI,Option.some.injEq,Prod.mk.injEq] at h
  obtain ⟨rfl,rfl,rfl⟩:=h
  exact ⟨vs,rfl,h1,h2,fun a ha=>by simp at ha,fun k c x v hc hx hv=>by rw [List.append_nil];exact h3 k c x v hc hx hv⟩
 | (k0,x)::r,cs,cs2,aas,as0,ps,ds,vs,h,h1,h2,h3=>by
  simp only [HI] at h
  split at h
  ·rename_i off n hplace
   split at h
   ·rename_i as1 ag xs hpc
    split at h
    ·rename_i hk
     split at h
     ·rename_i as2 cs2' ps' hrec
      simp only [Option.some.injEq,Prod.mk.injEq] at h
      obtain ⟨rfl,rfl,rfl⟩:=h
      obtain ⟨us,q1,q2,q3,q4,q5,q6,q7⟩:=uS hL hg hpc
      have hn:((cC x).get env).length=n:=q3.symm.trans hk.1
      have hxs:xs.length=n:=hk.1
      have hus:us.length=n:=q4.trans hn
      have hcells:(a.eval x).cells=us.toArray:=by
       rw [q1]
       refine mI q2 (fun i v hv=>?_)
       have hi:i<us.length:=(List.getElem?_eq_some_iff.1 hv).1
       exact (q7 i _ _ v (List.getElem?_eq_getElem (by omega)) (List.getElem?_eq_getElem (by omega)) hv).1
      have hce:cs.take off++xs++cs.drop (off+n)=cs.take off++xs++cs.drop (off+xs.length):=by rw [hxs]
      have hde:cA ds off ((cC x).get env)=ds.take off++(cC x).get env++ds.drop (off+((cC x).get env).length):=rfl
      have hve:vs.take off++us++vs.drop (off+n)=vs.take off++us++vs.drop (off+us.length):=by rw [hus]
      have b1:off+xs.length≤cs.length:=by omega
      have b2:off+((cC x).get env).length≤ds.length:=by omega
      have b3:off+us.length≤vs.length:=by omega
      obtain ⟨vs2,r1,r2,r3,r4,r5⟩:=NN hL hg hpl (as0:=as0++as1) (ds:=cA ds off ((cC x).get env)) (vs:=vs.take off++us++vs.drop (off+n)) hrec
       (by rw [hce,hde,bQ b1,bQ b2];exact h1) (by rw [hve,hde,bQ b3,bQ b2];exact h2)
       (fun k c y v hc hy hv=>by
        rw [hce,dA b1] at hc
        rw [hde,dA b2] at hy
        rw [hve,dA b3] at hv
        by_cases c1:k<off
        ·rw [if_pos c1] at hc hy hv
         exact (h3 k c y v hc hy hv).mono (fun a ha=>List.mem_append_left _ ha)
        ·rw [if_neg c1] at hc hy hv
         by_cases c2:k<off+n
         ·rw [if_pos (by omega)] at hc hy hv
          have:=(q7 (k - off) c y v hc hy hv).mono (bs:=as0++as1) (fun a ha=>List.mem_append_right _ ha)
          rwa [show off+(k - off)=k from by omega] at this
         ·rw [if_neg (by omega)] at hc hy hv
          exact (h3 k c y v hc hy hv).mono (fun a ha=>List.mem_append_left _ ha))
      refine ⟨vs2,?_,r2,r3,fun a ha=>?_,fun k c y v hc hy hv=>?_⟩
      ·rw [List.map_cons,Kc place (hpl _ _ _ hplace) hcells hus (by omega)]
       exact r1
      ·rcases List.mem_append.1 ha with ha | ha
       ·exact (q5 a ha).1
       ·exact r4 a ha
      ·rw [←List.append_assoc]
       exact r5 k c y v hc hy hv
     ·cases h
    ·cases h
   ·cases h
  ·cases h

theorem NO (P:Program):∀ {fs:List Field} {pl:List (Nat×Nat)},fs.mapM (fun f=>(P.info? f.type).map fun i=>(f.offset,i.size))=some pl→∀ {k:Nat} {f:Field},fs[k]? =some f→∃ i,P.info? f.type=some i∧pl[k]? =some (f.offset,i.size)
 | [],pl,h,k,f,hk=>by simp at hk
 | f0::fs,pl,h,k,f,hk=>by
  simp only [List.mapM_cons,Option.bind_eq_bind,Option.pure_def] at h
  cases hi:P.info? f0.type with
  | none=>simp [hi] at h
  | some i=>
   cases hr:fs.mapM (fun f=>(P.info? f.type).map fun i=>(f.offset,i.size)) with
   | none=>simp [hi,hr] at h
   | some rest=>
    simp [hi,hr] at h
    subst h
    cases k with
    | zero=>
     simp only [List.getElem?_cons_zero,Option.some.injEq] at hk
     subst hk
     exact ⟨i,hi,rfl⟩
    | succ k=>exact NO P hr (by simpa using hk)

theorem Kd (P:Program):∀ {fs:List Field} {l:List (Nat×Nat)},HX fs l=true→(l.all fun p=>(P.info? p.2).isSome)=true→∃ pl,fs.mapM (fun f=>(P.info? f.type).map fun i=>(f.offset,i.size))=some pl
 | [],[],_,_=>⟨[],rfl⟩
 | [],_::_,h,_=>by cases h
 | _::_,[],h,_=>by cases h
 | f::r,(x,y)::q,h,ha=>by
  simp only [HX,Bool.and_eq_true] at h
  simp only [List.all_cons,Bool.and_eq_true] at ha
  obtain ⟨pl,hpl⟩:=Kd P h.2 ha.2
  have:f.type=y:=Nat.eq_of_beq_eq_true h.1.2
  obtain ⟨i,hi⟩:=Option.isSome_iff_exists.1 ha.1
  exact ⟨(f.offset,i.size)::pl,by simp [List.mapM_cons,this,hi,hpl]⟩

theorem Wj (hC:CfgOk P C){t:Nat}{ti:TI}(hti:C.ty t=some ti)(hag:ti.agg=true):
  ∃ place:Nat→Option (Nat×Nat),(∀ k off n,C.place t k=some (off,n)→place k=some (off,n))∧∃ z:Value,zsChk ti.zero z.cells.toList=true∧
   ∀ (parts:List (Nat×Value)),P.built t parts=Instr.fill place z.cells parts:=by
 have hT:=hC t ti hti
 obtain ⟨i,z,h1,h2,h3,h4⟩:=hT.zero
 cases hde:ti.desc with
 | struct fs=>
  have hd:=hT.desc
  obtain ⟨dd,hu⟩:=hT.und
  rw [hde,hu] at hd
  cases dd<;>simp only [descChk,Bool.false_eq_true] at hd
  rename_i fields
  have hf:=hT.fld
  rw [hde] at hf
  obtain ⟨pl,hpl⟩:=Kd P hd hf
  refine ⟨(pl.toArray[·]?),fun k off n hk=>?_,z,h3,fun parts=>?_⟩
  ·unfold Cfg.place at hk
   rw [hti] at hk
   simp only [hde] at hk
   split at hk
   ·rename_i off' ft hfk
    split at hk
    ·rename_i fi hfi
     split at hk
     ·cases hk
     ·simp only [Option.some.injEq,Prod.mk.injEq] at hk
      obtain ⟨rfl,rfl⟩:=hk
      obtain ⟨f,g1,g2,g3⟩:=EN hd hfk
      obtain ⟨i',g4,g5⟩:=NO P hpl g1
      obtain ⟨i2,g6,g7,_⟩:=(hC ft fi hfi).info
      rw [g3] at g4
      rw [g4] at g6
      simp only [Option.some.injEq] at g6
      subst g6
      simp only [List.getElem?_toArray]
      rw [g5,g2,g7]
    ·cases hk
   ·cases hk
  ·unfold Program.built
   rw [h1,hu]
   simp only [h2,hpl]
 | array n e=>
  have hu:=hT.array hde
  -- the element's type is known where a part is placed
  cases hei:C.ty e with
  | none=>
   cases hie:P.info? e with
   | some ie=>
    refine ⟨fun i=>some (i*ie.size,ie.size),fun k off n hk=>?_,z,h3,fun parts=>?_⟩
    ·unfold Cfg.place at hk
     rw [hti] at hk
     simp only [hde,hei] at hk
     cases hk
    ·unfold Program.built
     rw [h1,hu]
     simp only [h2,hie]
   | none=>
    refine ⟨fun _=>none,fun k off n hk=>?_,z,h3,fun parts=>?_⟩
    ·unfold Cfg.place at hk
     rw [hti] at hk
     simp only [hde,hei] at hk
     cases hk
    ·have hf:=hT.fld
     rw [hde] at hf
     simp [fldChk,hie] at hf
  | some ei=>
   obtain ⟨ie,g1,g2,_⟩:=(hC e ei hei).info
   refine ⟨fun i=>some (i*ie.size,ie.size),fun k off n hk=>?_,z,h3,fun parts=>?_⟩
   ·unfold Cfg.place at hk
    rw [hti] at hk
    simp only [hde,hei,Option.some.injEq,Prod.mk.injEq] at hk
    obtain ⟨rfl,rfl⟩:=hk
    rw [g2]
   ·unfold Program.built
    rw [h1,hu]
    simp only [h2,g1]
 | int k=>simp [TI.agg,hde] at hag
 | bool=>simp [TI.agg,hde] at hag
 | str=>simp [TI.agg,hde] at hag
 | slice e=>simp [TI.agg,hde] at hag
 | ptr e=>simp [TI.agg,hde] at hag
 | other=>simp [TI.agg,hde] at hag

variable (hC:CfgOk P C)(hw:WOk w0 own0 cx own w)(hL:∀ z,SlotOk w cx own env (tvA a) z (L z))(hg:∀ gs b,g=some (gs,b)→env gs=[.bool b])
 (hod:o.dst=some d)(hd:d<a.tmps.size)(hn:∀ d sh,u.dst=some (d,sh)→sh.names d=false)(hp:pstep p env=some env')
include hC hw hL hg hod hd hn hp

theorem Wl {t:TypeId}{parts:Array (Nat×Operand)}(ho:o.op= .build t parts)(hc:Pv C L g d t parts.toList=some (u,p)):nM P cx own w a env o u env':=by
 unfold Pv at hc
 split at hc
 ·rename_i ti hti
  split at hc
  ·rename_i aas cs' ps hcp
   split at hc
   ·rename_i hk
    simp only [Bool.and_eq_true] at hk
    obtain ⟨hag,hnd⟩:=hk
    simp only [Option.some.injEq,Prod.mk.injEq] at hc
    obtain ⟨rfl,rfl⟩:=hc
    simp only [pstep,Option.some.injEq] at hp
    subst hp
    obtain ⟨place,hpl,z,hz,hb⟩:=Wj hC hti hag
    obtain ⟨vs2,r1,r2,r3,r4,r5⟩:=NN hL hg hpl (as0:=[]) (ds:=ti.zero) (vs:=z.cells.toList) hcp (by simp [La]) (mV hz) (fun k c x v hc hx hv=>by
     unfold La at hc
     rw [List.getElem?_map,hx] at hc
     simp only [Option.map_some,Option.some.injEq] at hc
     subst hc
     have:=xI (mW hz hx hv) 0 0 w cx own
     exact ⟨this.1,.inr ⟨by cases x<;>rfl,this.2⟩⟩)
    have hr:(execOp a.eval o).run P w= .ok (.value (.agg vs2.toArray)) w:=by
     unfold execOp
     have hbb:=hb (parts.toList.map fun p=>(p.1,a.eval p.2))
     rw [Array.toArray_toList] at r1
     rw [r1] at hbb
     have:=run_build (P:=P) w t (parts.map fun p=>(p.1,a.eval p.2)) vs2.toArray (by rw [Array.toList_map];exact hbb)
     simp only [ho,Sem.run_bind]
     rw [show (parts.map fun x=>match x with | (i,x)=>(i,a.eval x))=(parts.map fun p=>(p.1,a.eval p.2)) from rfl,this]
     simp only [Result.andThen_ok,Sem.run_pure]
    refine ⟨_,aU own (aX {aff:=aas,dst:=some (d,.v true cs') }) w.heap.size none,w,hr,?_⟩
    rw [hod]
    refine fG (nb:=none) hw (HeapOk.same_world own w _) (fun g i h=>h.elim) hnd (fun a ha=> .inl (r4 a ha)) (fun k hk=>by cases hk)
     (fun s hs=>cY _ _ _ _ (eB hs)) (fun s hs=>by rw [aQ a d _ hd,if_neg (rR hs)]) (by simp [Act.put]) rfl (fun st af=>⟨fun p hp=>by simp at hp,fun d' sh' he=>?_⟩)
    simp only [Option.some.injEq,Prod.mk.injEq] at he
    obtain ⟨rfl,rfl⟩:=he
    refine ⟨vs2,?_,(fun h=>by cases h),?_⟩
    ·rw [aQ a d _ hd,if_pos rfl];rfl
    ·rw [aI]
     refine ⟨r2,r3,fun k c y v hc hy hv=>?_⟩
     exact (r5 k c y v hc hy hv).ok st af (fun a ha=>by simpa using ha)
   ·cases hc
  ·cases hc
 ·cases hc

end

end
section

theorem nN (P:Program)(g o:Nat)(t:TypeId)(fz:Nat×Nat):∀ (vs:List Value) (i:Nat) (cur:Array Value) (w:World),w.heap[g]? =some (.cells cur t fz)→
  (∀ k,o+i≤k→k<o+i+vs.length→(fz.1≤k&&k<fz.2)=false)→o+i+vs.length≤cur.size→(∀ v∈vs,v.oneCell'=true)→
  (storeCells ⟨g,o,none⟩ vs i).run P w= .ok () (w.setRow g (cur.toList.take (o+i)++vs++cur.toList.drop (o+i+vs.length)).toArray)
 | [],i,cur,w,hg,_,_,_=>by
  simp only [storeCells,List.append_nil,List.length_nil,Nat.add_zero,List.take_append_drop,Array.toArray_toList]
  rw [setRow_self w g cur t fz hg]
  rfl
 | v::rest,i,cur,w,hg,hfz,hl,h1=>by
  have hi:o+i<cur.size:=by simp at hl;omega
  have hadd:(⟨g,o,none⟩:Addr).add i=⟨g,o+i,none⟩:=by unfold Addr.add;split<;>simp_all
  have hcell:w.cell? ⟨g,o+i,none⟩=some cur[o+i]:=by simp [World.cell?,hg,hi]
  have hfro:w.frozen? ⟨g,o+i,none⟩=false:=by
   have:=hfz (o+i) (Nat.le_refl _) (by simp)
   obtain ⟨lo,hi'⟩:=fz
   simp only [World.frozen?,hg]
   exact this
  have hst:(store ((⟨g,o,none⟩:Addr).add i) v).run P w= .ok () (w.setRow g (cur.setIfInBounds (o+i) v)):=by
   rw [hadd,run_store P w _ v _ (h1 v (by simp)),hcell]
   simp [hfro,setCell_eq_setRow w g (o+i) cur t fz v hg]
  have ih:=nN P g o t fz rest (i+1) (cur.setIfInBounds (o+i) v) (w.setRow g (cur.setIfInBounds (o+i) v)) (setRow_heap w g cur _ t _ hg)
   (fun k hk1 hk2=>hfz k (by omega) (by simp at hk2 ⊢;omega)) (by simp at hl ⊢;omega) (fun x hx=>h1 x (by simp [hx]))
  simp only [storeCells,Sem.run_bind,hst,Result.andThen_ok,ih,setRow_setRow]
  congr 3
  have e:=list_seg_step cur.toList (o+i) v rest (by simp at hl ⊢;omega)
  simpa [Array.toList_setIfInBounds,Nat.add_assoc] using e

theorem Cell1.one {v:Value}(h:Cell1 v):v.oneCell'=true:=by
 unfold Value.oneCell'
 split
 ·exact absurd rfl (h.1 _)
 ·exact absurd rfl (h.2 _)
 ·rfl

section
variable {P:Program}{C:Cfg}{w0:World}{own0:Own}{cx:Cx}{own own':Own}{w w':World}{a:Act}{env env':Env}{L:Look}{g:Gd}{o:Oper}{u:Up}{p:PS}{d:Nat}

theorem xO {t:TypeId}{ti:TI}(hT:TyOk P t ti){ad x:Operand}(ho:o.op= .store t ad x){gg off:Nat}(had:a.eval ad= .pointer (some ⟨gg,off,none⟩)){vs:List Value}(hv:(a.eval x).cells=vs.toArray)(hl:vs.length=ti.size)
  {cur:Array Value}{T:TypeId}{fr:Nat×Nat}(hg:w.heap[gg]? =some (.cells cur T fr))(hfr:∀ k,off≤k→k<off+vs.length→(fr.1≤k&&k<fr.2)=false)(hb:off+vs.length≤cur.size)(h1:∀ (i:Nat) (v:Value),vs[i]? =some v→Cell1 v):
  (execOp a.eval o).run P w= .ok .skip (w.setRow gg (cur.toList.take off++vs++cur.toList.drop (off+vs.length)).toArray):=by
 have hs:=nN P gg off T fr vs 0 cur w hg (fun k h2 h3=>hfr k (by omega) (by omega)) (by omega) (fun v hv=>by
  obtain ⟨i,hi⟩:=List.getElem?_of_mem hv
  exact (h1 i v hi).one)
 simp only [Nat.add_zero] at hs
 unfold execOp
 have hsz:(a.eval x).cells.size=ti.size:=by rw [hv];simpa using hl
 simp only [ho,Instr.storeAt,Instr.sureAddr,had,storeVar,Sem.run_bind,Sem.run_pure,Result.andThen_ok,hT.size w,hsz,ne_eq,not_true_eq_false,if_false]
 rw [hv]
 simp only [hs,Result.andThen_ok]

theorem BB (hod:o.dst=none)(hr:(execOp a.eval o).run P w= .ok .skip w')(hd:Done cx own w a env u own' w' a env'):xN P cx own w a env o u env':=by
 intro K Q hK
 unfold Oper.wp
 rw [hr]
 simp only [Oper.upon,hod,Act.put]
 exact hK own' w' a hd

theorem wL {A:Nat×Nat→Prop}{W:Nat→Prop}{dd:Option Nat}{tv tv':Nat→Value}(st:Step cx own w env tv A W dd own' w' env' tv'){s i:Nat}{c:CS}(hna:oN c=true)(hA:∀ m f,c= .o m f→¬A (s,i+1)){x:D}{v:Value}
  (h:aS w cx own s i c x v):aS w' cx own' s i c x v:=by
 refine ⟨h.1,?_⟩
 have h2:=h.2
 cases c with
 | n=>exact h2
 | s=>exact h2
 | r=>exact st.rs h2
 | b=>exact st.bs h2
 | x=>trivial
 | o m f=>exact st.ownr (f:=f) (hA m f rfl) h2
 | al hh k m f=>cases hna

theorem DL {cs:List CS}{b:Nat}:∀ {n off:Nat} {x:Aff},x∈qA cs b off n→dL x∧x.to= .r∧x.h=b∧off≤x.i∧x.i<off+n
 | 0,off,x,h=>by simp [qA] at h
 | n+1,off,x,h=>by
  simp only [qA,List.mem_append] at h
  rcases h with h | h
  ·split at h
   ·simp only [List.mem_singleton] at h
    subst h
    exact ⟨⟨rfl,.inr (.inl rfl)⟩,rfl,rfl,Nat.le_refl _,by simp⟩
   ·simp at h
  ·obtain ⟨h1,h2,h3,h4,h5⟩:=DL h
   exact ⟨h1,h2,h3,by omega,by omega⟩

theorem HeapOk.row' (own:Own)(w:World)(u:Up){gg:Nat}{cur cur':Array Value}{T:TypeId}{fr:Nat×Nat}{i:OI}(hg:w.heap[gg]? =some (.cells cur T fr))(hs:cur'.size=cur.size)(ho:own gg=some i)(hA:u.A i.leaf)(hb:i.bound=some 0):
  HeapOk own w (w.setRow gg cur') u (fun g=>g=gg):=by
 refine ⟨rfl,rfl,rfl,by simp,fun g _ hne=>setRow_other w gg g cur' hne,?_,?_,?_⟩
 ·rintro g rfl;exact ⟨i,ho,hA⟩
 ·rintro g o' rfl hc;exact absurd ⟨i,0,ho,hb,Nat.zero_le _⟩ hc
 ·rintro g c T' rfl hh
  rw [hg] at hh
  simp only [Option.some.injEq,Obj.cells.injEq] at hh
  obtain ⟨rfl,rfl,rfl⟩:=hh
  exact ⟨cur',setRow_heap w g cur cur' T _ hg,hs⟩

variable (hC:CfgOk P C)(hw:WOk w0 own0 cx own w)(hL:∀ z,SlotOk w cx own env (tvA a) z (L z))(hg:∀ gs b,g=some (gs,b)→env gs=[.bool b])
 (hod:o.dst=none)(hp:pstep p env=some env')
include hC hw hL hg hod hp

theorem NP {t:TypeId}{ti:TI}(hti:C.ty t=some ti){s b off gg:Nat}{x:Operand}(ho:o.op= .store t (.tmp s) x)(h1:tvA a b= .pointer (some ⟨gg,0,none⟩))(h2:tvA a s= .pointer (some ⟨gg,off,none⟩))
  {cs xs:List CS}{aas:List Aff}{ag:Bool}(hb:L b= .box false cs)(hpc:pY L g b off x=some (aas,ag,xs))(hxs:xs.length=ti.size)(hle:off+ti.size≤cs.length)(hnd:bE (qA cs b off ti.size++aas)=true)(hal:cs.all oN=true)
  (hu:u={aff:=qA cs b off ti.size++aas,bx:=[(b,.box false (cs.take off++xs++cs.drop (off+ti.size)))] })(hpp:p= .st b off (cC x)):xN P cx own w a env o u env':=by
 subst hpp
 have hLb:=hL b
 rw [hb] at hLb
 obtain ⟨g2,cur,T,h3,h4,h5,h6⟩:=hLb
 rw [h1] at h3
 simp only [Value.pointer.injEq,Option.some.injEq,Addr.mk.injEq,and_true] at h3
 subst h3
 simp only [Bool.false_eq_true,if_false] at h6
 obtain ⟨vs,q1,q2,q3,q4,q5,q6,q7⟩:=uS hL hg hpc
 have hcl:cs.length=(env b).length:=h5.1
 have hvl:cur.size=(env b).length:=by have:=h5.2.1;simpa using this
 have hxe:((cC x).get env).length=ti.size:=q3.symm.trans hxs
 have hvs:vs.length=ti.size:=q4.trans hxe
 simp only [pstep] at hp
 rw [if_pos (by omega)] at hp
 simp only [Option.some.injEq] at hp
 subst hp
 have hone:∀ (i:Nat) (v:Value),vs[i]? =some v→Cell1 v:=fun i v hv=>by
  have hi:i<vs.length:=(List.getElem?_eq_some_iff.1 hv).1
  exact (q7 i _ _ v (List.getElem?_eq_getElem (by omega)) (List.getElem?_eq_getElem (by omega)) hv).1
 have hcells:(a.eval x).cells=vs.toArray:=by rw [q1];exact mI q2 hone
 have hr:=xO (hC t ti hti) ho (show a.eval (.tmp s)=_ from h2) hcells hvs h4 (fun k _ _=>by simp) (by omega) hone
 have hce:cs.take off++xs++cs.drop (off+ti.size)=cs.take off++xs++cs.drop (off+xs.length):=by rw [hxs]
 have b1:off+xs.length≤cs.length:=by omega
 have b2:off+((cC x).get env).length≤(env b).length:=by omega
 have b3:off+vs.length≤cur.toList.length:=by simp;omega
 have hal':∀ c∈cs,oN c=true:=fun c hc=>List.all_eq_true.1 hal c hc
 have hA:u.A (b,0):= .inr (.inl ⟨_,by rw [hu];exact List.mem_cons_self ..,rfl,rfl⟩)
 refine BB hod hr (own':=aU own (aX u) w.heap.size none) ?_
 have hsz:(cur.toList.take off++vs++cur.toList.drop (off+vs.length)).toArray.size=cur.size:=by
  have:=bQ b3
  simpa using this
 have haff:∀ y∈u.aff,(dL y∧y.to= .r∧y.h=b∧off≤y.i∧y.i<off+ti.size)∨(y∈aas):=by
  intro y hy
  rw [hu] at hy
  rcases List.mem_append.1 hy with hy | hy
  ·exact .inl (DL hy)
  ·exact .inr hy
 refine fG (nb:=none) (gb:=fun g=>g=gg) hw (HeapOk.row' own w u h4 hsz h6 hA rfl) (fun g i hgg hi=>?_) (by rw [hu];exact hnd) (fun y hy=>?_) (fun k hk=>by cases hk)
  (fun z hz=>?_) (fun _ _=>rfl) rfl rfl (fun st af=>⟨fun p hp _=>?_,fun d' sh' he=>?_⟩)
 ·subst hgg
  rw [h6] at hi
  simp only [Option.some.injEq] at hi
  subst hi
  exact .inl rfl
 ·rcases haff y hy with h | h
  ·exact .inl h.1
  ·exact .inl (q5 y h).1
 ·refine cY _ _ _ _ (fun e=>hz (.inr ⟨_,by rw [hu];exact List.mem_cons_self ..,e.symm⟩))
 ·rw [hu] at hp
  simp only [List.mem_singleton] at hp
  subst hp
  refine ⟨gg,_,T,h1,setRow_heap w gg cur _ T _ h4,?_,?_⟩
  ·rw [aI]
   have hde:cA (env b) off ((cC x).get env)=(env b).take off++(cC x).get env++(env b).drop (off+((cC x).get env).length):=rfl
   refine ⟨by rw [hce,hde,bQ b1,bQ b2];exact hcl,by rw [hde,bQ b2,bQ b3];simpa using hvl,fun k c y v hc hy hv=>?_⟩
   rw [hce,dA b1] at hc
   rw [hde,dA b2] at hy
   rw [dA b3] at hv
   have keep:¬(off≤k∧k<off+ti.size)→cs[k]? =some c→(env b)[k]? =some y→cur.toList[k]? =some v→aS (w.setRow gg (cur.toList.take off++vs++cur.toList.drop (off+vs.length)).toArray) cx (aU own (aX u) w.heap.size none) b k c y v:=by
    intro hk hc hy hv
    refine wL st (hal' c (List.mem_of_getElem? hc)) (fun m f hcf hAA=>?_) (h5.2.2 k c y v hc hy hv)
    rcases hAA with h | ⟨_,_,_,h⟩ | ⟨j,h,h'⟩
    ·rw [hu] at h;simp [Up.isDst] at h
    ·simp at h
    ·simp only [Nat.add_right_cancel_iff] at h
     subst h
     rcases h' with h' | h'
     ·obtain ⟨z,hz⟩:=Option.isSome_iff_exists.1 h'
      obtain ⟨z1,z2,z3⟩:=Up.find_some hz
      rcases haff z z1 with h | h
      ·obtain ⟨_,_,_,h8,h9⟩:=h
       exact hk ⟨by rw [←z3];exact h8,by rw [←z3];exact h9⟩
      ·exact (q5 z h).2.2 z2
     ·obtain ⟨z,hz,hto⟩:=List.any_eq_true.1 h'
      rcases haff z hz with h | h
      ·rw [h.2.1] at hto;cases hto
      ·obtain ⟨_,⟨kk,m',f',h8,h9⟩,_⟩:=q5 z h
       rw [h8] at hto
       simp only [CS.isTo,Bool.and_eq_true] at hto
       have:=Nat.eq_of_beq_eq_true hto.2
       omega
   by_cases c1:k<off
   ·rw [if_pos c1] at hc hy hv
    exact keep (by omega) hc hy hv
   ·rw [if_neg c1] at hc hy hv
    by_cases c2:k<off+ti.size
    ·rw [if_pos (by omega)] at hc hy hv
     have:=(q7 (k - off) c y v hc hy hv).ok st af (fun y hy=>by rw [hu];exact List.mem_append_right _ hy)
     rwa [show off+(k - off)=k from by omega] at this
    ·rw [if_neg (by omega)] at hc hy hv
     exact keep (by omega) hc hy hv
  ·simp only [Bool.false_eq_true,if_false]
   rw [mH hw h6]
   simp only [aX]
   rw [hu]
   rfl
 ·rw [hu] at he;cases he

end

end
section

section
variable {P:Program}{C:Cfg}{w0:World}{own0:Own}{cx:Cx}{own own':Own}{w w':World}{a:Act}{env env':Env}{L:Look}{g:Gd}{o:Oper}{u:Up}{p:PS}{d:Nat}

theorem QM (hL:∀ z,SlotOk w cx own env (tvA a) z (L z))(hg:∀ gs b,g=some (gs,b)→env gs=[.bool b]){x:Operand}{n:Nat}(hx:∀ c,bY L g x≠[c]∨c≠ .x)(hn:(bY L g x).length=n):
  ∃ ag vs s,a.eval x=wrapV ag vs∧(ag=false→vs.length=1)∧(∀ t,x= .tmp t→s=t)∧((cC x).get env).length=n∧vs.length=n∧lS L g x= .v ag (bY L g x)∧
   All3 (aS w cx own s) (bY L g x) ((cC x).get env) vs:=by
 unfold bY at *
 cases he:lS L g x with
 | v ag cs=>
  rw [he] at hn
  simp only at hn
  obtain ⟨vs,s,h1,h2,h3,h4⟩:=opV hL hg he
  exact ⟨ag,vs,s,h1,h2,h3,by rw [←h4.1];exact hn,by rw [h4.2.1,←h4.1];exact hn,rfl,h4⟩
 | dead=>rw [he] at hx;rcases hx .x with h | h<;>exact absurd rfl h
 | box _ _=>rw [he] at hx;rcases hx .x with h | h<;>exact absurd rfl h
 | pt _ _=>rw [he] at hx;rcases hx .x with h | h<;>exact absurd rfl h
 | el _ _=>rw [he] at hx;rcases hx .x with h | h<;>exact absurd rfl h
 | bx _ _ _=>rw [he] at hx;rcases hx .x with h | h<;>exact absurd rfl h
 | clo _ _=>rw [he] at hx;rcases hx .x with h | h<;>exact absurd rfl h
 | tup _=>rw [he] at hx;rcases hx .x with h | h<;>exact absurd rfl h
 | opt _ _ _=>rw [he] at hx;rcases hx .x with h | h<;>exact absurd rfl h
 | ld _ _ _=>rw [he] at hx;rcases hx .x with h | h<;>exact absurd rfl h

theorem aE0 {z:List D}(h:uP z=true):∀ c∈La z,c= .s:=by
 intro c hc
 unfold La at hc
 obtain ⟨y,hy,rfl⟩:=List.mem_map.1 hc
 have:=List.all_eq_true.1 h y hy
 cases y<;>first | rfl | cases this

variable (hC:CfgOk P C)(hw:WOk w0 own0 cx own w)(hL:∀ z,SlotOk w cx own env (tvA a) z (L z))(hg:∀ gs b,g=some (gs,b)→env gs=[.bool b])
 (hod:o.dst=none)(hp:pstep p env=some env')
include hC hw hL hg hod hp

theorem QN {t:TypeId}{ti:TI}(hti:C.ty t=some ti){s b es off:Nat}{x:Operand}(ho:o.op= .store t (.tmp s) x)(hs:SlotOk w cx own env (tvA a) s (.bx b es off))
  {cs:List CS}(hb:L b= .box false cs)(hall:cs.all (· = .s)=true)(hx:bY L g x=La ti.zero)(hz:uP ti.zero=true)
  (hu:u={bx:=[(b,.box false cs)] })(hpp:p= .bxs s b es off (cC x)):xN P cx own w a env o u env':=by
 subst hpp
 have hT:=hC t ti hti
 obtain ⟨k,n,gg,h1,h2,h3,h4⟩:=hs
 have hLb:=hL b
 rw [hb] at hLb
 obtain ⟨g2,cur,T,h5,h6,h7,h8⟩:=hLb
 rw [h3] at h5
 simp only [Value.pointer.injEq,Option.some.injEq,Addr.mk.injEq,and_true] at h5
 subst h5
 simp only [Bool.false_eq_true,if_false] at h8
 have hzs:=aE0 hz
 obtain ⟨ag,vs,sx,q1,q2,q3,q4,q5,q6,q7⟩:=QM (n:=ti.size) hL hg (x:=x) (fun c=>by
  rcases Classical.em (c= .x) with rfl | hc
  ·left
   intro he
   have:=hzs .x (by rw [←hx,he];simp)
   cases this
  ·exact .inr hc) (by rw [hx];simp [La,hT.len])
 simp only [pstep,h1] at hp
 split at hp
 ·rename_i hle
  simp only [Option.some.injEq] at hp
  subst hp
  have hcl:cs.length=(env b).length:=h7.1
  have hvl:cur.size=(env b).length:=by have:=h7.2.1;simpa using this
  have hone:∀ (i:Nat) (v:Value),vs[i]? =some v→Cell1 v:=fun i v hv=>by
   have hi:i<vs.length:=(List.getElem?_eq_some_iff.1 hv).1
   have hl:(bY L g x).length=ti.size:=by rw [hx];simp [La,hT.len]
   exact (q7.2.2 i _ _ v (List.getElem?_eq_getElem (by omega)) (List.getElem?_eq_getElem (by omega)) hv).1
  have hcells:(a.eval x).cells=vs.toArray:=by rw [q1];exact mI q2 hone
  have hr:=xO hT ho (show a.eval (.tmp s)=_ from h4) hcells q5 h6 (fun k _ _=>by simp) (by omega) hone
  have b2:(n.toNat*es+off)+((cC x).get env).length≤(env b).length:=by omega
  have b3:(n.toNat*es+off)+vs.length≤cur.toList.length:=by simp;omega
  have hA:u.A (b,0):= .inr (.inl ⟨_,by rw [hu];exact List.mem_cons_self ..,rfl,rfl⟩)
  refine BB hod hr (own':=aU own (aX u) w.heap.size none) ?_
  have hsz:(cur.toList.take (n.toNat*es+off)++vs++cur.toList.drop (n.toNat*es+off+vs.length)).toArray.size=cur.size:=by
   have:=bQ b3
   simpa using this
  refine fG (nb:=none) (gb:=fun g=>g=gg) hw (HeapOk.row' own w u h6 hsz h8 hA rfl) (fun g i hgg hi=>?_) (by rw [hu];rfl) (fun y hy=>by rw [hu] at hy;simp at hy) (fun k hk=>by cases hk)
   (fun z hz=>?_) (fun _ _=>rfl) rfl rfl (fun st af=>⟨fun p hp _=>?_,fun d' sh' he=>?_⟩)
  ·subst hgg
   rw [h8] at hi
   simp only [Option.some.injEq] at hi
   subst hi
   exact .inl rfl
  ·refine cY _ _ _ _ (fun e=>hz (.inr ⟨_,by rw [hu];exact List.mem_cons_self ..,e.symm⟩))
  ·rw [hu] at hp
   simp only [List.mem_singleton] at hp
   subst hp
   refine ⟨gg,_,T,h3,setRow_heap w gg cur _ T _ h6,?_,?_⟩
   ·rw [aI]
    have hde:cA (env b) (n.toNat*es+off) ((cC x).get env)=(env b).take (n.toNat*es+off)++(cC x).get env++(env b).drop (n.toNat*es+off+((cC x).get env).length):=rfl
    refine ⟨by rw [hde,bQ b2];exact hcl,by rw [hde,bQ b2,bQ b3];simpa using hvl,fun k c y v hc hy hv=>?_⟩
    have hcs:c= .s:=by simpa using List.all_eq_true.1 hall c (List.mem_of_getElem? hc)
    subst hcs
    rw [hde,dA b2] at hy
    rw [dA b3] at hv
    by_cases c1:k<n.toNat*es+off
    ·rw [if_pos c1] at hy hv
     exact h7.2.2 k .s y v hc hy hv
    ·rw [if_neg c1] at hy hv
     by_cases c2:k<n.toNat*es+off+ti.size
     ·rw [if_pos (by omega)] at hy hv
      have hl:(bY L g x).length=ti.size:=by rw [hx];simp [La,hT.len]
      have hk:k - (n.toNat*es+off)<(bY L g x).length:=by omega
      have:=q7.2.2 _ _ y v (List.getElem?_eq_getElem hk) hy hv
      have hc2:(bY L g x)[k - (n.toNat*es+off)]= .s:=hzs _ (by rw [←hx];exact List.getElem_mem hk)
      rw [hc2] at this
      exact this
     ·rw [if_neg (by omega)] at hy hv
      exact h7.2.2 k .s y v hc hy hv
   ·simp only [Bool.false_eq_true,if_false]
    rw [mH hw h8]
    simp only [aX]
    rw [hu]
    rfl
  ·rw [hu] at he;cases he
 ·cases hp

end

section
variable {P:Program}{C:Cfg}{w0:World}{own0:Own}{cx:Cx}{own own':Own}{w w':World}{a:Act}{env env':Env}{L:Look}{g:Gd}{o:Oper}{u:Up}{p:PS}{d:Nat}

def Jo (w:World)(cx:Cx)(own:Own)(aas:List Aff)(x:D)(v:Value):Prop:=
 Cell1 v∧(Rep w (RS cx own) x v∨∃ a∈aas,a.to= .r∧OwnRep w cx own (a.h,a.i+1) a.m a.f x v)

theorem Jo.mono {aas bs:List Aff}{x:D}{v:Value}(h:Jo w cx own aas x v)(hs:∀ a∈aas,a∈bs):Jo w cx own bs x v:=
 ⟨h.1,h.2.imp id (fun ⟨a,ha,h⟩=>⟨a,hs a ha,h⟩)⟩

theorem Jo.ok {A:Nat×Nat→Prop}{W:Nat→Prop}{dd':Option Nat}{tv tv':Nat→Value}(st:Step cx own w env tv A W dd' own' w' env' tv')(af:AffOk cx own w u own' w'){aas:List Aff}{x:D}{v:Value}
  (h:Jo w cx own aas x v)(hs:∀ a∈aas,a∈u.aff):Rep w' (RS cx own') x v:=by
 rcases h.2 with h | ⟨a,ha,hto,ho⟩
 ·exact st.rs h
 ·have:=af.to a (hs a ha) x v ho 0 0
  rw [hto] at this
  exact this

theorem zZ {s:Nat}{ds:List D}{vs:List Value}:∀ {cs:List CS} {i:Nat} {aas:List Aff},pX s cs i=some aas→
  (∀ (k:Nat) (c:CS) (x:D) (v:Value),cs[k]? =some c→ds[i+k]? =some x→vs[i+k]? =some v→aS w cx own s (i+k) c x v)→
  (∀ a∈aas,dL a∧a.to= .r)∧∀ (k:Nat) (x:D) (v:Value),k<cs.length→ds[i+k]? =some x→vs[i+k]? =some v→Jo w cx own aas x v
 | [],i,aas,h,_=>by
  simp only [pX,Option.some.injEq] at h
  subst h
  exact ⟨fun a ha=>by simp at ha,fun k x v hk=>by simp at hk⟩
 | c0::r,i,aas,h,hc=>by
  simp only [pX] at h
  split at h
  ·cases h
  rename_i as1 hm
  obtain ⟨h1,h2⟩:=zZ hm (fun k c x v hk hx hv=>by
   have:=hc (k+1) c x v (by simpa using hk) (by rw [←hx];congr 1;omega) (by rw [←hv];congr 1;omega)
   rwa [show i+(k+1)=i+1+k from by omega] at this)
  have tail:∀ {bs:List Aff},(∀ a∈as1,a∈bs)→(∀ (x:D) (v:Value),ds[i]? =some x→vs[i]? =some v→Jo w cx own bs x v)→
    ∀ (k:Nat) (x:D) (v:Value),k<(c0::r).length→ds[i+k]? =some x→vs[i+k]? =some v→Jo w cx own bs x v:=by
   intro bs hs hz k x v hk hx hv
   cases k with
   | zero=>exact hz x v hx hv
   | succ k=>
    exact (h2 k x v (by simpa using hk) (by rw [←hx];congr 1;omega) (by rw [←hv];congr 1;omega)).mono hs
  have h0:∀ (x:D) (v:Value),ds[i]? =some x→vs[i]? =some v→aS w cx own s i c0 x v:=fun x v hx hv=>hc 0 c0 x v rfl hx hv
  cases c0 with
  | s=>
   simp only [Option.some.injEq] at h
   subst h
   exact ⟨h1,tail (fun a ha=>ha) (fun x v hx hv=>⟨(h0 x v hx hv).1,.inl (.scal (h0 x v hx hv).2)⟩)⟩
  | n=>
   simp only [Option.some.injEq] at h
   subst h
   exact ⟨h1,tail (fun a ha=>ha) (fun x v hx hv=>⟨(h0 x v hx hv).1,.inl (by obtain ⟨e1,e2⟩:=(h0 x v hx hv).2;rw [e1,e2];exact .nil _ _)⟩)⟩
  | r=>
   simp only [Option.some.injEq] at h
   subst h
   exact ⟨h1,tail (fun a ha=>ha) (fun x v hx hv=>⟨(h0 x v hx hv).1,.inl (h0 x v hx hv).2⟩)⟩
  | o m f=>
   simp only [Option.some.injEq] at h
   subst h
   refine ⟨fun a ha=>?_,tail (fun a ha=>List.mem_cons_of_mem _ ha) (fun x v hx hv=>⟨(h0 x v hx hv).1,.inr ⟨_,List.mem_cons_self ..,rfl,(h0 x v hx hv).2⟩⟩)⟩
   rcases List.mem_cons.1 ha with rfl | ha
   ·exact ⟨⟨rfl,.inr (.inl rfl)⟩,rfl⟩
   ·exact h1 a ha
  | al hh k m f=>
   simp only [Option.some.injEq] at h
   subst h
   refine ⟨fun a ha=>?_,tail (fun a ha=>List.mem_cons_of_mem _ ha) (fun x v hx hv=>⟨(h0 x v hx hv).1,.inr ⟨_,List.mem_cons_self ..,rfl,(h0 x v hx hv).2⟩⟩)⟩
   rcases List.mem_cons.1 ha with rfl | ha
   ·exact ⟨⟨rfl,.inr (.inl rfl)⟩,rfl⟩
   ·exact h1 a ha
  | b=>cases h
  | x=>cases h

theorem uT (hL:∀ z,SlotOk w cx own env (tvA a) z (L z))(hg:∀ gs b,g=some (gs,b)→env gs=[.bool b]){x:Operand}{aas:List Aff}(h:pZ L g x=some aas):
  ∃ ag vs,a.eval x=wrapV ag vs∧(ag=false→vs.length=1)∧((cC x).get env).length=(bY L g x).length∧vs.length=(bY L g x).length∧(∀ a∈aas,dL a∧a.to= .r)∧
   ∀ (k:Nat) (y:D) (v:Value),((cC x).get env)[k]? =some y→vs[k]? =some v→Jo w cx own aas y v:=by
 unfold pZ at h
 split at h
 ·rename_i v
  split at h
  ·rename_i hk
   have hcc:=wI (w:=w) (cx:=cx) (own:=own) hk 0 0
   refine ⟨false,[v],rfl,fun _=>rfl,?_,?_,?_,?_⟩
   ·simp [bY,lS,hk,cC,Opd.get]
   ·simp [bY,lS,hk]
   ·intro a ha
    split at h
    ·cases h
    ·simp only [Option.some.injEq] at h;subst h;simp at ha
   ·intro k y u hy hu
    cases k with
    | zero=>
     simp only [cC,Opd.get,List.getElem?_cons_zero,Option.some.injEq] at hy hu
     subst hy;subst hu
     refine ⟨hcc.1,.inl ?_⟩
     have h2:=hcc.2
     generalize he:(hY v).2=c at h h2
     unfold hY at he
     split at he
     all_goals first
      | (subst he;exact .scal h2)
      | (subst he;obtain ⟨e1,e2⟩:=h2;rw [e1,e2];exact .nil _ _)
      | (subst he;cases h)
    | succ k=>simp at hu
  ·cases h
 ·rename_i s
  have hs:=eV hL hg s
  split at h
  ·rename_i ag cs he
   rw [he] at hs
   obtain ⟨vs,h1,h2,h3⟩:=hs
   obtain ⟨k1,k2⟩:=zZ (ds:=env s) (vs:=vs) h (fun k c x v hc hx hv=>by
    rw [Nat.zero_add] at hx hv ⊢
    exact h3.2.2 k c x v hc hx hv)
   have hoc:bY L g (.tmp s)=cs:=by simp [bY,lS,he]
   refine ⟨ag,vs,h1,h2,by rw [hoc];exact h3.1.symm,by rw [hoc,h3.2.1,h3.1],k1,fun k y v hy hv=>?_⟩
   have hy':(env s)[k]? =some y:=hy
   have hk:k<cs.length:=by rw [h3.1];exact (List.getElem?_eq_some_iff.1 hy').1
   exact k2 k y v hk (by rw [Nat.zero_add];exact hy') (by rw [Nat.zero_add];exact hv)
  ·cases h
 ·cases h

end

end
section

section
variable {P:Program}{C:Cfg}{w0:World}{own0:Own}{cx:Cx}{own own':Own}{w w':World}{a:Act}{env env':Env}{L:Look}{g:Gd}{o:Oper}{u:Up}{p:PS}{d:Nat}

variable (hC:CfgOk P C)(hw:WOk w0 own0 cx own w)(hL:∀ z,SlotOk w cx own env (tvA a) z (L z))(hg:∀ gs b,g=some (gs,b)→env gs=[.bool b])
 (hod:o.dst=none)(hp:pstep p env=some env')
include hC hw hL hg hod hp

theorem QO {t:TypeId}{ti:TI}(hti:C.ty t=some ti){s h i off:Nat}{x:Operand}(ho:o.op= .store t (.tmp s) x){fsz:Nat}(hs:SlotOk w cx own env (tvA a) s (.el (.al h i true ⟨fsz,false⟩) off))
  {aas:List Aff}(hfz:pZ L g x=some aas)(hnd:bE (⟨h,i,true,⟨fsz,false⟩,.o true ⟨fsz,false⟩,.x⟩::aas)=true)(hsz:(bY L g x).length=ti.size)(hho:rG i ⟨fsz,false⟩ (L h)=true)(hne:∀ y∈aas,y.h≠h)
  (hu:u={aff:=⟨h,i,true,⟨fsz,false⟩,.o true ⟨fsz,false⟩,.x⟩::aas,bx:=[(h,L h)] })(hpp:p= .els s off h i (cC x)):xN P cx own w a env o u env':=by
 subst hpp
 have hT:=hC t ti hti
 obtain ⟨xs,k,n,g1,o0,sz,len,cap,h1,h2,h3,h4,h5,h6,h7⟩:=hs
 obtain ⟨ag,vs,q1,q2,q3,q4,q5,q6⟩:=uT hL hg hfz
 rw [hsz] at q3 q4
 have hone:∀ (i:Nat) (v:Value),vs[i]? =some v→Cell1 v:=fun i v hv=>by
  have hi:i<vs.length:=(List.getElem?_eq_some_iff.1 hv).1
  exact (q6 i _ v (List.getElem?_eq_getElem (by omega)) hv).1
 have hcells:(a.eval x).cells=vs.toArray:=by rw [q1];exact mI q2 hone
 simp only [pstep,h1] at hp
 split at hp
 rotate_left
 ·cases hp
 rename_i _ _ xs1 k1 n1 ys he1 he2
 simp only [List.cons.injEq,D.sl.injEq,D.int.injEq,and_true] at he1
 obtain ⟨rfl,rfl,rfl⟩:=he1
 split at hp
 rotate_left
 ·cases hp
 rename_i _ _ xa yb hxa hyb
 split at hp
 rotate_left
 ·cases hp
 rename_i hle
 simp only [Option.some.injEq] at hp
 subst hp
 -- the spine
 have h62:OwnRep w cx own (h,i+1) true ⟨fsz,false⟩ (.sl xs) (.slice (some ⟨g1,o0,none⟩) len cap):=h6.2
 have hspine:o0=0∧own g1=some ⟨(h,i+1),[],some 0⟩:=by
  cases h62 with
  | sl _ g cap cur T fr vs e1 e2=>exact ⟨rfl,e2⟩
  | ip _ _ hf=>cases hf
 obtain ⟨rfl,hown1⟩:=hspine
 -- what slot h holds
 have hkey:∀ (cs:List CS) (vsh:List Value),Yr ⟨fsz,false⟩ (cs.getD i .x)=true→cs.all oN=true→All3 (aS w cx own h) cs (env h) vsh→
   ∃ (cur:Array Value) (T:TypeId) (fr:Nat×Nat),w.heap[g1]? =some (.cells cur T fr)∧
    (∀ j,n.toNat*sz+off≤j→j<n.toNat*sz+off+vs.length→(fr.1≤j&&j<fr.2)=false)∧n.toNat*sz+off+vs.length≤cur.size∧
    ∀ (w':World) (own':Own) (st:Step cx own w env (tvA a) u.A u.W u.d own' w' (put env h ((env h).set i (.sl (ys.set n.toNat (cA yb off ((cC x).get env)))))) (tvA a)) (af:AffOk cx own w u own' w'),
     own' g1=some ⟨(h,i+1),[],some 0⟩→w'.heap[g1]? =some (.cells (cur.toList.take (n.toNat*sz+off)++vs++cur.toList.drop (n.toNat*sz+off+vs.length)).toArray T fr)→
     All3 (aS w' cx own' h) cs ((env h).set i (.sl (ys.set n.toNat (cA yb off ((cC x).get env))))) vsh:=by
  intro cs vsh hci hal h3'
  have hil:i<cs.length:=by
   rcases Nat.lt_or_ge i cs.length with hh | hh
   ·exact hh
   ·rw [List.getD_eq_getElem?_getD,List.getElem?_eq_none hh] at hci;cases hci
  have hcs:cs[i]? =some (.o true ⟨fsz,false⟩):=by
   rw [List.getD_eq_getElem?_getD,List.getElem?_eq_getElem hil] at hci
   rw [List.getElem?_eq_getElem hil]
   simp only [Option.getD_some] at hci
   unfold Yr at hci
   split at hci
   ·rename_i e;rw [e,←pO.1 hci]
   ·cases hci
  have hvi:i<vsh.length:=by rw [h3'.2.1,←h3'.1];exact hil
  have hvh:vsh[i]? =some vsh[i]:=List.getElem?_eq_getElem hvi
  have hc:=h3'.2.2 i _ _ _ hcs he2 hvh
  have hc2:OwnRep w cx own (h,i+1) true ⟨fsz,false⟩ (.sl ys) vsh[i]:=hc.2
  generalize hvhe:vsh[i]=vh at hc hc2 hvh
  cases hc2 with
  | nil=>simp at hyb
  | ip _ _ hf=>cases hf
  | sl _ g2 cap2 cur T fr vs2 e1 e2 e3 e4 e5 e6 e7 e8 e9 e10=>
   have hgg:g2=g1:=hw.inj g2 g1 _ _ e2 hown1 rfl rfl
   subst hgg
   have hszz:fsz=sz:=by
    have q1:=e8 yb (List.mem_of_getElem? hyb)
    have q2:=h4 xa (List.mem_of_getElem? hxa)
    exact q1.symm.trans (hle.1.symm.trans q2)
   subst hszz
   simp only [] at e5 e6 e7 e8 e9 e10
   have hybl:yb.length=fsz:=e8 yb (List.mem_of_getElem? hyb)
   have hnl:n.toNat<ys.length:=(List.getElem?_eq_some_iff.1 hyb).1
   have hmul:n.toNat*fsz+fsz≤ys.length*fsz:=by rw [←Nat.succ_mul];exact Nat.mul_le_mul_right _ hnl
   have hmul2:ys.length*fsz≤cap2*fsz:=Nat.mul_le_mul_right _ e3
   refine ⟨cur,T,fr,e1,fun j hj1 hj2=>e6 j (.inl (by omega)),by omega,fun w' own' st af hown' hheap'=>?_⟩
   have b2:off+((cC x).get env).length≤yb.length:=hle.2
   have b3:(n.toNat*fsz+off)+vs.length≤cur.toList.length:=by simp;omega
   refine ⟨by rw [List.length_set];exact h3'.1,by rw [List.length_set];exact h3'.2.1,fun j c y v hcj hyj hvj=>?_⟩
   by_cases hji:j=i
   ·subst hji
    rw [hcs] at hcj
    simp only [Option.some.injEq] at hcj
    subst hcj
    rw [hvh] at hvj
    simp only [Option.some.injEq] at hvj
    subst hvj
    rw [List.getElem?_set_self (by rw [←h3'.1];exact hil)] at hyj
    simp only [Option.some.injEq] at hyj
    subst hyj
    refine ⟨hc.1,?_⟩
    have hyl:(ys.set n.toNat (cA yb off ((cC x).get env))).length=ys.length:=by simp
    have hde:cA yb off ((cC x).get env)=yb.take off++(cC x).get env++yb.drop (off+((cC x).get env).length):=rfl
    have hsl:(cA yb off ((cC x).get env)).length=fsz:=by rw [hde,bQ b2];exact hybl
    have hcur:∀ j,(cur.toList.take (n.toNat*fsz+off)++vs++cur.toList.drop (n.toNat*fsz+off+vs.length)).toArray[j]? =if j<n.toNat*fsz+off then cur[j]? else if j<n.toNat*fsz+off+vs.length then vs[j - (n.toNat*fsz+off)]? else cur[j]? :=by
     intro j
     rw [List.getElem?_toArray,dA b3]
     simp
    have hcs2:(cur.toList.take (n.toNat*fsz+off)++vs++cur.toList.drop (n.toNat*fsz+off+vs.length)).toArray.size=cur.size:=by
     have:=bQ b3
     simpa using this
    have hget:∀ (i':Nat) (x':List D),(ys.set n.toNat (cA yb off ((cC x).get env)))[i']? =some x'→(i'=n.toNat∧x'=cA yb off ((cC x).get env))∨(i'≠n.toNat∧ys[i']? =some x'):=by
     intro i' x' hx'
     by_cases hin:i'=n.toNat
     ·subst hin
      rw [List.getElem?_set_self hnl] at hx'
      simp only [Option.some.injEq] at hx'
      exact .inl ⟨rfl,hx'.symm⟩
     ·rw [List.getElem?_set_ne (Ne.symm hin)] at hx'
      exact .inr ⟨hin,hx'⟩
    -- what stands at each place, and that it is good
    have hval:∀ (i':Nat) (x':List D) (j':Nat) (d':D),(ys.set n.toNat (cA yb off ((cC x).get env)))[i']? =some x'→x'[j']? =some d'→
      ∃ v',(cur.toList.take (n.toNat*fsz+off)++vs++cur.toList.drop (n.toNat*fsz+off+vs.length)).toArray[i'*fsz+j']? =some v'∧Rep w' (RS cx own') d' v':=by
     intro i' x' j' d' hx' hd'
     rcases hget i' x' hx' with ⟨rfl,rfl⟩ | ⟨hin,hx2⟩
     ·have hj':j'<fsz:=by rw [←hsl];exact (List.getElem?_eq_some_iff.1 hd').1
      rw [hde,dA b2] at hd'
      rw [hcur]
      by_cases c1:j'<off
      ·rw [if_pos c1] at hd'
       rw [if_pos (by omega)]
       exact ⟨_,e9 _ yb j' d' hyb hd',st.rs (e10 _ yb j' d' hyb hd')⟩
      ·rw [if_neg c1] at hd'
       rw [if_neg (by omega)]
       by_cases c2:j'<off+((cC x).get env).length
       ·rw [if_pos c2] at hd'
        rw [if_pos (by omega)]
        have hjv:j' - off<vs.length:=by omega
        have hv':vs[j' - off]? =some vs[j' - off]:=List.getElem?_eq_getElem hjv
        refine ⟨vs[j' - off],by rw [←hv'];congr 1;omega,?_⟩
        exact (q6 _ d' _ hd' hv').ok st af (fun y hy=>by rw [hu];exact List.mem_cons_of_mem _ hy)
       ·rw [if_neg c2] at hd'
        rw [if_neg (by omega)]
        exact ⟨_,e9 _ yb j' d' hyb hd',st.rs (e10 _ yb j' d' hyb hd')⟩
     ·have hj':j'<fsz:=by rw [←e8 x' (List.mem_of_getElem? hx2)];exact (List.getElem?_eq_some_iff.1 hd').1
      rw [hcur]
      have hout:¬(n.toNat*fsz+off≤i'*fsz+j'∧i'*fsz+j'<n.toNat*fsz+off+vs.length):=by
       rintro ⟨hx1,hx3⟩
       rcases Nat.lt_or_gt_of_ne hin with hlt | hgt
       ·have:i'*fsz+fsz≤n.toNat*fsz:=by rw [←Nat.succ_mul];exact Nat.mul_le_mul_right _ hlt
        omega
       ·have:n.toNat*fsz+fsz≤i'*fsz:=by rw [←Nat.succ_mul];exact Nat.mul_le_mul_right _ hgt
        omega
      refine ⟨vs2 i' j',?_,st.rs (e10 i' x' j' d' hx2 hd')⟩
      split
      ·exact e9 i' x' j' d' hx2 hd'
      ·rw [if_neg (by omega)]
       exact e9 i' x' j' d' hx2 hd'
    have:=OwnRep.sl (w:=w') (cx:=cx) (own:=own') (lf:=(h,j+1)) (m:=true) (f:=⟨fsz,false⟩) (ys.set n.toNat (cA yb off ((cC x).get env))) g2 cap2 _ T fr
     (fun i' j'=>((cur.toList.take (n.toNat*fsz+off)++vs++cur.toList.drop (n.toNat*fsz+off+vs.length)).toArray[i'*fsz+j']?).getD undef) hheap' hown' (by rw [hyl];exact e3) e4 (by rw [hcs2];exact e5) e6 e7
     (fun x' hx'=>by
      obtain ⟨i',hi'⟩:=List.getElem?_of_mem hx'
      rcases hget i' x' hi' with ⟨_,rfl⟩ | ⟨_,hx2⟩
      ·exact hsl
      ·exact e8 x' (List.mem_of_getElem? hx2))
     (fun i' x' j' d' hx' hd'=>by
      obtain ⟨v',hv',_⟩:=hval i' x' j' d' hx' hd'
      rw [hv'];rfl)
     (fun i' x' j' d' hx' hd'=>by
      obtain ⟨v',hv',hr'⟩:=hval i' x' j' d' hx' hd'
      rw [hv']
      exact hr')
    rw [hyl] at this
    exact this
   ·rw [List.getElem?_set_ne (Ne.symm hji)] at hyj
    refine wL st (List.all_eq_true.1 hal c (List.mem_of_getElem? hcj)) (fun m f hcf hAA=>?_) (h3'.2.2 j c y v hcj hyj hvj)
    rcases hAA with hh | ⟨_,_,_,hh⟩ | ⟨jj,hh,hh'⟩
    ·rw [hu] at hh;simp [Up.isDst] at hh
    ·simp at hh
    ·simp only [Nat.add_right_cancel_iff] at hh
     subst hh
     rcases hh' with hh' | hh'
     ·obtain ⟨z,hz⟩:=Option.isSome_iff_exists.1 hh'
      obtain ⟨z1,z2,z3⟩:=Up.find_some hz
      rw [hu] at z1
      rcases List.mem_cons.1 z1 with rfl | z1
      ·exact hji z3.symm
      ·exact hne z z1 z2
     ·obtain ⟨z,hz,hto⟩:=List.any_eq_true.1 hh'
      rw [hu] at hz
      rcases List.mem_cons.1 hz with rfl | hz
      ·cases hto
      ·rw [(q5 z hz).2] at hto;cases hto
 have hA:u.A (h,i+1):= .inr (.inr ⟨i,rfl,.inl (by
  rw [hu]
  simp [Up.find])⟩)
 have hfind:u.find h i=some ⟨h,i,true,⟨fsz,false⟩,.o true ⟨fsz,false⟩,.x⟩:=by
  have:=iF (u:=u) (by rw [hu];exact hnd) (a:=⟨h,i,true,⟨fsz,false⟩,.o true ⟨fsz,false⟩,.x⟩) (by rw [hu];exact List.mem_cons_self ..)
  exact this
 have hto:u.isTo h i=false:=by
  rw [hu]
  refine List.any_eq_false.2 fun y hy=>?_
  rcases List.mem_cons.1 hy with rfl | hy
  ·simp [CS.isTo]
  ·rw [(q5 y hy).2];simp [CS.isTo]
 have hlab:aU own (aX u) w.heap.size none g1=some ⟨(h,i+1),[],some 0⟩:=by
  rw [mH hw hown1]
  simp only [aX,hfind,hto]
  rw [hu]
  rfl
 -- the run
 have main:∀ (cs:List CS) (vsh:List Value),Yr ⟨fsz,false⟩ (cs.getD i .x)=true→cs.all oN=true→All3 (aS w cx own h) cs (env h) vsh→
   (∀ (w':World) (own':Own),own'=aU own (aX u) w.heap.size none→(∀ g,g≠g1→w'.heap[g]? =w.heap[g]?)→
    All3 (aS w' cx own' h) cs ((env h).set i (.sl (ys.set n.toNat (cA yb off ((cC x).get env))))) vsh→
    SlotOk w' cx own' (put env h ((env h).set i (.sl (ys.set n.toNat (cA yb off ((cC x).get env)))))) (tvA a) h (L h))→xN P cx own w a env o u (put env h ((env h).set i (.sl (ys.set n.toNat (cA yb off ((cC x).get env)))))):=by
  intro cs vsh hci hal h3' hslot
  obtain ⟨cur,T,fr,e1,e2,e3,e4⟩:=hkey cs vsh hci hal h3'
  have had:a.eval (.tmp s)= .pointer (some ⟨g1,n.toNat*sz+off,none⟩):=by rw [zY,h7,Nat.zero_add]
  have hr:=xO hT ho had hcells q4 e1 e2 e3 hone
  have b3:(n.toNat*sz+off)+vs.length≤cur.toList.length:=by simpa using e3
  have hfsz:(cur.toList.take (n.toNat*sz+off)++vs++cur.toList.drop (n.toNat*sz+off+vs.length)).toArray.size=cur.size:=by
   have:=bQ b3
   simpa using this
  refine BB hod hr (own':=aU own (aX u) w.heap.size none) ?_
  refine fG (nb:=none) (gb:=fun g=>g=g1) hw (HeapOk.row' own w u e1 hfsz hown1 hA rfl) (fun g i' hgg hi=>?_) (by rw [hu];exact hnd) (fun y hy=>?_) (fun k hk=>by cases hk)
   (fun z hz=>?_) (fun _ _=>rfl) rfl rfl (fun st af=>⟨fun p hp _=>?_,fun d' sh' he=>?_⟩)
  ·subst hgg
   rw [hown1] at hi
   simp only [Option.some.injEq] at hi
   subst hi
   exact .inr ⟨_,by rw [hu];exact List.mem_cons_self ..,⟨rfl,rfl⟩,rfl⟩
  ·rw [hu] at hy
   rcases List.mem_cons.1 hy with rfl | hy
   ·exact .inr ⟨⟨rfl,rfl⟩,.inr ⟨_,by rw [hu];exact List.mem_cons_self ..,rfl⟩⟩
   ·exact .inl (q5 y hy).1
  ·refine cY _ _ _ _ (fun e=>hz (.inr ⟨_,by rw [hu];exact List.mem_cons_self ..,e.symm⟩))
  ·rw [hu] at hp
   simp only [List.mem_singleton] at hp
   subst hp
   exact hslot _ _ rfl (fun g hgg=>setRow_other w g1 g _ hgg) (e4 _ _ st af hlab (setRow_heap w g1 cur _ T fr e1))
  ·rw [hu] at he;cases he
 have hLh:=hL h
 cases hsh:L h with
 | v ag' cs=>
  rw [hsh] at hLh hho
  simp only [rG,Bool.and_eq_true] at hho
  obtain ⟨vsh,r1,r2,r3⟩:=hLh
  refine main cs vsh hho.1 hho.2 r3 (fun w' own' _ _ h3''=>?_)
  rw [hsh]
  exact ⟨vsh,r1,r2,by rw [aI];exact h3''⟩
 | box ro cs=>
  rw [hsh] at hLh hho
  cases ro with
  | true=>cases hho
  | false=>
   simp only [rG,Bool.and_eq_true] at hho
   obtain ⟨gb,cur,T,r1,r2,r3,r4⟩:=hLh
   simp only [Bool.false_eq_true,if_false] at r4
   refine main cs cur.toList hho.1 hho.2 r3 (fun w' own' ho' hh' h3''=>?_)
   rw [hsh]
   have hgne:gb≠g1:=fun e=>by
    rw [e,hown1] at r4
    simp at r4
   refine ⟨gb,cur,T,r1,(hh' gb hgne).trans r2,by rw [aI];exact h3'',?_⟩
   simp only [Bool.false_eq_true,if_false]
   rw [ho',mH hw r4]
   simp only [aX]
   rw [hu]
   rfl
 | dead=>rw [hsh] at hho;cases hho
 | pt _ _=>rw [hsh] at hho;cases hho
 | el _ _=>rw [hsh] at hho;cases hho
 | bx _ _ _=>rw [hsh] at hho;cases hho
 | clo _ _=>rw [hsh] at hho;cases hho
 | tup _=>rw [hsh] at hho;cases hho
 | opt _ _ _=>rw [hsh] at hho;cases hho
 | ld _ _ _=>rw [hsh] at hho;cases hho

end

end
section

abbrev PathF:=List (Nat×Nat)→Option (List (Nat×Nat))

def dG (u:Up)(T:Leaf)(ms:Leaf→Option PathF)(i:OI):Option OI:=
 match ms i.leaf with
 | some F=>(F i.path).map fun p=>⟨T,p,i.bound⟩
 | none=>aX u i

structure MsOk (u:Up) (T:Leaf) (ms:Leaf→Option PathF) (nb:Option OI):Prop where
 hit:∀ l F,ms l=some F→∃ a∈u.aff,l=(a.h,a.i+1)
 inj:∀ l l' F F' p p' q,ms l=some F→ms l'=some F'→F p=some q→F' p'=some q→l=l'∧p=p'
 tgt:u.isDst T.1=true∨∃ F,ms T=some F
 noal:∀ a∈u.aff,∀ d j m f,a.to≠ .al d j m f
 nb:∀ k,nb=some k→k.leaf=T∧∀ l F p,ms l=some F→F p≠some k.path

section
variable {w0:World}{own0:Own}{cx:Cx}{own own':Own}{w w':World}{env env':Env}{tv tv':Nat→Value}{u:Up}{T:Leaf}{ms:Leaf→Option PathF}

theorem MsOk.hitA {nb:Option OI}(hm:MsOk u T ms nb)(hnd:bE u.aff=true){l:Leaf}{F:PathF}(h:ms l=some F):u.A l:=by
 obtain ⟨a,ha,rfl⟩:=hm.hit l F h
 exact .inr (.inr ⟨a.i,rfl,.inl (by rw [iF hnd ha];rfl)⟩)

theorem NQ {nb:Option OI}(hm:MsOk u T ms nb)(hnd:bE u.aff=true){i:OI}(h:¬u.A i.leaf):dG u T ms i=some i:=by
 unfold dG
 cases hi:ms i.leaf with
 | some F=>exact absurd (hm.hitA hnd hi) h
 | none=>exact uR h

theorem qC {i i':OI}(h:dG u T ms i=some i'):(∃ F,ms i.leaf=some F∧F i.path=some i'.path∧i'.leaf=T∧i'.bound=i.bound)∨(ms i.leaf=none∧aX u i=some i'):=by
 unfold dG at h
 cases hi:ms i.leaf with
 | none=>rw [hi] at h;exact .inr ⟨rfl,h⟩
 | some F=>
  rw [hi] at h
  simp only at h
  cases hF:F i.path with
  | none=>rw [hF] at h;cases h
  | some p=>
   rw [hF] at h
   simp only [Option.map_some,Option.some.injEq] at h
   subst h
   exact .inl ⟨F,rfl,hF,rfl,rfl⟩

theorem Lo {i i':OI}(h:dG u T ms i=some i'):i'.bound=i.bound:=by
 rcases qC h with ⟨_,_,_,_,h⟩ | ⟨_,h⟩
 ·exact h
 ·exact (fQ h).2.1

theorem ZK (hw:WOk w0 own0 cx own w){gi:Nat}{nb:Option OI}{gb:Nat→Prop}(hh:HeapOk own w w' u gb)(hnd:bE u.aff=true)(hgi:Ln own w w' u gi nb)
  (hm:MsOk u T ms nb)(henv:∀ s,¬u.W s→env' s=env s)(htv:∀ s,u.d≠some s→tv' s=tv s):
  Step cx own w env tv u.A u.W u.d (aU own (dG u T ms) gi nb) w' env' tv' where
 kept:=hh.kept
 none':=fun g hg hn=>by
  cases h:aU own (dG u T ms) gi nb g with
  | none=>rfl
  | some i=>
   rcases eC hw h with ⟨h1,_⟩ | ⟨_,_,j,h1,_⟩
   ·rcases hgi with ⟨h2,_⟩ | ⟨i0,h2,_⟩
    ·omega
    ·rw [←h1,hn] at h2;cases h2
   ·rw [hn] at h1;cases h1
 unc:=fun g o hg hc hc'=>by
  obtain ⟨i',b,h1,h2,h3⟩:=hc'
  rcases eC hw h1 with ⟨h4,h4'⟩ | ⟨_,_,i,h4,h5⟩
  ·rcases hgi with ⟨h5,_⟩ | ⟨i0,h5,_,h6⟩
   ·omega
   ·obtain ⟨b',h7,h8⟩:=h6 i' h4' o ⟨b,h2,h3⟩
    exact hc ⟨i0,b',by rw [h4];exact h5,h7,h8⟩
  ·exact hc ⟨i,b,h4,by rw [←Lo h5];exact h2,h3⟩
 lab:=fun g i hi hA=>by
  have hne:g≠gi:=by
   rintro rfl
   rcases hgi with ⟨h2,_⟩ | ⟨i0,h2,h3,_⟩
   ·have:=(hw.dom g i hi).1;omega
   ·rw [hi] at h2
    simp only [Option.some.injEq] at h2
    subst h2
    exact hA h3
  refine ⟨by rw [oX hi hne];exact NQ hm hnd hA,hh.same g (hw.dom g i hi).1 (fun hb=>?_)⟩
  obtain ⟨j,h1,h2⟩:=hh.lab g hb
  rw [hi] at h1
  simp only [Option.some.injEq] at h1
  subst h1
  exact hA h2
 new:=fun g i' h=>by
  rcases eC hw h with ⟨h1,h2⟩ | ⟨_,h1,i,h2,h3⟩
  ·rcases hgi with ⟨h4,h5⟩ | ⟨i0,h4,_⟩
   ·rw [h1,h4]
    exact ⟨h5 i' h2,(hw.n _).2 (.inl hw.kept.size)⟩
   ·rw [h1]
    exact ⟨Nat.lt_of_lt_of_le (hw.dom gi i0 h4).1 hh.size,(hw.dom gi i0 h4).2⟩
  ·exact ⟨Nat.lt_of_lt_of_le h1 hh.size,(hw.dom g i h2).2⟩
 inj:=fun g g' i' j' h h' hl hp=>by
  -- what is not moved does not lie at T
  have offT:∀ {j j':OI},ms j.leaf=none→aX u j=some j'→j'=j∧j'.leaf≠T:=by
   intro j j' h1 h2
   obtain ⟨_,_,h3⟩:=fQ h2
   rcases h3 with ⟨rfl,h4,_⟩ | ⟨k,a,d,jj,m,f,_,h4,h5,_⟩
   ·refine ⟨rfl,fun e=>?_⟩
    rcases hm.tgt with h5 | ⟨F,h5⟩
    ·rw [←e,h4] at h5;cases h5
    ·rw [←e,h1] at h5;cases h5
   ·exact absurd h5 (hm.noal a (Up.find_some h4).1 d jj m f)
  have nbT:∀ {k j j':OI},nb=some k→dG u T ms j=some j'→k.leaf=j'.leaf→k.path=j'.path→False:=by
   intro k j j' h1 h2 h3 h4
   obtain ⟨h5,h6⟩:=hm.nb k h1
   rcases qC h2 with ⟨F,h7,h8,_,_⟩ | ⟨h7,h8⟩
   ·exact h6 _ F _ h7 (by rw [h8,h4])
   ·exact (offT h7 h8).2 (by rw [←h3,h5])
  rcases eC hw h with ⟨h1,h2⟩ | ⟨_,h1,i,h2,h3⟩
  ·rcases eC hw h' with ⟨h4,h5⟩ | ⟨_,h4,j,h5,h6⟩
   ·rw [h1,h4]
   ·exact (nbT h2 h6 hl hp).elim
  ·rcases eC hw h' with ⟨h4,h5⟩ | ⟨_,h4,j,h5,h6⟩
   ·exact (nbT h5 h3 hl.symm hp.symm).elim
   ·rcases qC h3 with ⟨F,a1,a2,a3,_⟩ | ⟨a1,a2⟩
    ·rcases qC h6 with ⟨F',b1,b2,b3,_⟩ | ⟨b1,b2⟩
     ·obtain ⟨e1,e2⟩:=hm.inj _ _ F F' _ _ _ a1 b1 a2 (by rw [b2,hp])
      exact hw.inj g g' i j h2 h5 e1 e2
     ·exact absurd (by rw [←hl,a3]) (offT b1 b2).2
    ·rcases qC h6 with ⟨F',b1,b2,b3,_⟩ | ⟨b1,b2⟩
     ·exact absurd (by rw [hl,b3]) (offT a1 a2).2
     ·obtain ⟨rfl,_⟩:=offT a1 a2
      obtain ⟨rfl,_⟩:=offT b1 b2
      exact hw.inj g g' _ _ h2 h5 hl hp
 env:=henv
 tv:=htv

theorem Wm (hw:WOk w0 own0 cx own w){gi:Nat}{nb:Option OI}{gb:Nat→Prop}(hh:HeapOk own w w' u gb)(hnd:bE u.aff=true)
  (hgb:∀ g i,(gb g∨g=gi)→own g=some i→∃ a∈u.aff,i.leaf=(a.h,a.i+1))(hm:MsOk u T ms nb)
  (ha:∀ a∈u.aff,a.to= .x∧(a.own= .x∨u.W a.h))
  (st:Step cx own w env tv u.A u.W u.d (aU own (dG u T ms) gi nb) w' env' tv'):AffOk cx own w u (aU own (dG u T ms) gi nb) w' where
 no:=fun a h m f=>by rw [(ha a h).1];simp
 to:=fun a h x v _ s i=>by rw [(ha a h).1];trivial
 ow:=fun a h hW x v _=>by
  rcases (ha a h).2 with h1 | h1
  ·rw [h1];trivial
  ·exact absurd h1 hW
 drop:=fun h i hd hf m f x v ho=>by
  have hno:∀ a∈u.aff,(a.h,a.i+1)≠(h,i+1):=fun a h1 e=>by
   simp only [Prod.mk.injEq,Nat.add_right_cancel_iff] at e
   have:=iF hnd h1
   rw [e.1,e.2,hf] at this
   cases this
  refine OwnRep.frozen' ho (fun g j hj hl=>?_) (fun d v h=>st.rs h)
  have hg:¬(gb g∨g=gi):=fun hb=>by
   obtain ⟨a,h1,h2⟩:=hgb g j hb hj
   exact hno a h1 (by rw [←h2,hl])
  refine ⟨?_,(hw.dom g j hj).2,hh.same g (hw.dom g j hj).1 (fun h=>hg (.inl h))⟩
  rw [oX hj (fun e=>hg (.inr e))]
  unfold dG
  have hms:ms j.leaf=none:=by
   cases hx:ms j.leaf with
   | none=>rfl
   | some F=>
    obtain ⟨a,h1,h2⟩:=hm.hit _ _ hx
    exact absurd (by rw [←h2,hl]) (hno a h1)
  rw [hms]
  simp only
  unfold aX
  have e2:j.leaf.2=i+1:=by rw [hl]
  have e1:j.leaf.1=h:=by rw [hl]
  rw [e2,e1]
  simp [hf,hd]

theorem Gs {a a':Act}(hw:WOk w0 own0 cx own w){gi:Nat}{nb:Option OI}{gb:Nat→Prop}(hh:HeapOk own w w' u gb)(hnd:bE u.aff=true)(hgi:Ln own w w' u gi nb)
  (hgb:∀ g i,(gb g∨g=gi)→own g=some i→∃ a∈u.aff,i.leaf=(a.h,a.i+1))(hm:MsOk u T ms nb)(ha:∀ a∈u.aff,a.to= .x∧(a.own= .x∨u.W a.h))
  (henv:∀ s,¬u.W s→env' s=env s)(htv:∀ s,u.d≠some s→tvA a' s=tvA a s)(hsz:a'.tmps.size=a.tmps.size)(hdf:a'.defers=a.defers)
  (hs:Step cx own w env (tvA a) u.A u.W u.d (aU own (dG u T ms) gi nb) w' env' (tvA a')→AffOk cx own w u (aU own (dG u T ms) gi nb) w'→
   (∀ p∈u.bx,u.isDst p.1=false→SlotOk w' cx (aU own (dG u T ms) gi nb) env' (tvA a') p.1 p.2)∧
   (∀ d sh,u.dst=some (d,sh)→SlotOk w' cx (aU own (dG u T ms) gi nb) env' (tvA a') d sh)):
  Done cx own w a env u (aU own (dG u T ms) gi nb) w' a' env':=by
 have st:=ZK hw hh hnd hgi hm henv htv
 have af:=Wm hw hh hnd hgb hm ha st
 obtain ⟨h1,h2⟩:=hs st af
 exact ⟨st,af,h1,h2,hsz,hdf⟩

theorem InRep.moved (hw:WOk w0 own0 cx own w){gi:Nat}{nb:Option OI}{gb:Nat→Prop}(hh:HeapOk own w w' u gb){l:Leaf}{F:PathF}(hF:ms l=some F){p q:List (Nat×Nat)}(hpq:∀ r,F (p++r)=some (q++r))
  (hg:∀ g i,own g=some i→i.leaf=l→(∃ r,i.path=p++r)→¬gb g∧g≠gi){d:D}{v:Value}(h:InRep w own l true p d v):InRep w' (aU own (dG u T ms) gi nb) T true q d v:=by
 refine h.re q (fun g i r hi hl hp hb=>?_)
 obtain ⟨h1,h2⟩:=hg g i hi hl ⟨r,hp⟩
 refine ⟨?_,hh.same g (hw.dom g i hi).1 h1⟩
 rw [oX hi h2]
 unfold dG
 rw [hl,hF]
 simp only [hp,hpq r,Option.map_some,hb]

theorem OwnRep.inr {lf:Leaf}{f:Fz}(hf:f.u=true){d:D}{v:Value}(h:OwnRep w cx own lf true f d v):InRep w own lf true [] d v:=by
 cases h with
 | nil=>exact .nil _ _ _
 | ip xs v _ h=>exact h
 | sl xs g cap cur Ty fr vs h1 h2 h3 h4 h5 h6 h7 h8 h9 h10=>
  refine .sl [] xs g f.sz cap cur Ty fr vs h1 h2 h3 (fun o ho=>h6 o (.inl <| Nat.lt_of_lt_of_le ho (Nat.mul_le_mul_right _ h3))) h8 h9 (fun i x j d hx hj=>?_)
  have h11:=h10 i x j d hx hj
  rw [hf] at h11
  exact h11

theorem InRep.cell1 {lf:Leaf}{m:Bool}{p:List (Nat×Nat)}{d:D}{v:Value}(h:InRep w own lf m p d v):Cell1 v:=by
 cases h with
 | scal h=>exact h.cell1
 | nil=>exact ⟨fun _=>by simp,fun _=>by simp⟩
 | sl=>exact ⟨fun _=>by simp,fun _=>by simp⟩

theorem OwnRep.opened {lf:Leaf}{f:Fz}(hf:f.u=true){ys:List (List D)}{v:Value}(h:OwnRep w cx own lf true f (.sl ys) v)(hne:ys≠[]):
  ∃ (g sz cap:Nat) (cur:Array Value) (Ty:TypeId) (fr:Nat×Nat) (vs:Nat→Nat→Value),v= .slice (some ⟨g,0,none⟩) ys.length cap∧w.heap[g]? =some (Obj.cells cur Ty fr)∧own g=some ⟨lf,[],some 0⟩∧
   (∀ o,o<ys.length*sz→(fr.1≤o&&o<fr.2)=false)∧(∀ x∈ys,x.length=sz)∧
   (∀ (i:Nat) (x:List D) (j:Nat) (d:D),ys[i]? =some x→x[j]? =some d→cur[i*sz+j]? =some (vs i j))∧
   (∀ (i:Nat) (x:List D) (j:Nat) (d:D),ys[i]? =some x→x[j]? =some d→InRep w own lf true [(i,j)] d (vs i j))∧(0<f.sz→sz=f.sz)∧
   ∀ (w':World) (own':Own) (lf':Leaf) (zs:List (List D)) (cur':Array Value) (vs':Nat→Nat→Value),zs.length=ys.length→w'.heap[g]? =some (Obj.cells cur' Ty fr)→cur'.size=cur.size→own' g=some ⟨lf',[],some 0⟩→
    (∀ x∈zs,x.length=sz)→(∀ (i:Nat) (x:List D) (j:Nat) (d:D),zs[i]? =some x→x[j]? =some d→cur'[i*sz+j]? =some (vs' i j))→
    (∀ (i:Nat) (x:List D) (j:Nat) (d:D),zs[i]? =some x→x[j]? =some d→InRep w' own' lf' true [(i,j)] d (vs' i j))→OwnRep w' cx own' lf' true f (.sl zs) v:=by
 cases h with
 | nil=>exact absurd rfl hne
 | ip xs v hf' h=>
  cases h with
  | scal h=>cases h
  | nil=>exact absurd rfl hne
  | sl _ _ g sz cap cur Ty fr vs h1 h2 h3 h4 h5 h6 h7=>
   refine ⟨g,sz,cap,cur,Ty,fr,vs,rfl,h1,h2,h4,h5,h6,(fun i x j d hx hj=>h7 i x j d hx hj),(fun h0=>absurd h0 (by rw [hf'];exact Nat.lt_irrefl 0)),fun w' own' lf' zs cur' vs' k1 k2 k3 k4 k5 k6 k7=> .ip zs _ hf' ?_⟩
   rw [←k1]
   exact .sl [] zs g sz cap cur' Ty fr vs' k2 k4 (by rw [k1];exact h3) (by rw [k1];exact h4) k5 k6 k7
 | sl xs g cap cur Ty fr vs h1 h2 h3 h4 h5 h6 h7 h8 h9 h10=>
  refine ⟨g,f.sz,cap,cur,Ty,fr,vs,rfl,h1,h2,fun o ho=>h6 o (.inl <| Nat.lt_of_lt_of_le ho (Nat.mul_le_mul_right _ h3)),h8,h9,fun i x j d hx hj=>?_,fun _=>rfl,fun w' own' lf' zs cur' vs' k1 k2 k3 k4 k5 k6 k7=>?_⟩
  ·have h11:=h10 i x j d hx hj
   rw [hf] at h11
   exact h11
  ·rw [←k1]
   refine .sl zs g cap cur' Ty fr vs' k2 k4 (by rw [k1];exact h3) h4 (by rw [k3];exact h5) h6 h7 k5 k6 (fun i x j d hx hj=>?_)
   rw [hf]
   exact k7 i x j d hx hj

def ZL (ps:List (Aff×(Nat×Nat)))(base:Leaf→Option PathF)(l:Leaf):Option PathF:=
 match ps.find? (fun q=>gP (q.1.h,q.1.i+1) l) with
 | some q=>some fun p=>some (q.2::p)
 | none=>base l

theorem nO {ps:List (Aff×(Nat×Nat))}{base:Leaf→Option PathF}{l:Leaf}{F:PathF}(h:ZL ps base l=some F):
  (∃ q∈ps,l=(q.1.h,q.1.i+1)∧F=fun p=>some (q.2::p))∨((∀ q∈ps,l≠(q.1.h,q.1.i+1))∧base l=some F):=by
 unfold ZL at h
 split at h
 ·rename_i q hq
  simp only [Option.some.injEq] at h
  have h1:=List.find?_some hq
  exact .inl ⟨q,List.mem_of_find?_eq_some hq,(bP.1 h1).symm,h.symm⟩
 ·rename_i hq
  refine .inr ⟨fun q hq' e=>?_,h⟩
  have:=List.find?_eq_none.1 hq q hq'
  exact this (bP.2 e.symm)

theorem TK {ps:List (Aff×(Nat×Nat))}{base:Leaf→Option PathF}(hnd:bE (ps.map (·.1))=true)(hpl:∀ q∈ps,∀ q'∈ps,q.1=q'.1→q.2=q'.2){q:Aff×(Nat×Nat)}(hq:q∈ps):
  ZL ps base (q.1.h,q.1.i+1)=some fun p=>some (q.2::p):=by
 unfold ZL
 cases hf:ps.find? (fun q'=>gP (q'.1.h,q'.1.i+1) (q.1.h,q.1.i+1)) with
 | none=>
  have:=List.find?_eq_none.1 hf q hq
  exact absurd (bP.2 rfl) this
 | some q'=>
  have h1:=List.find?_some hf
  have h2:=List.mem_of_find?_eq_some hf
  have h3:=bP.1 h1
  simp only [Prod.mk.injEq,Nat.add_right_cancel_iff] at h3
  rcases sI hnd (List.mem_map.2 ⟨q',h2,rfl⟩) (List.mem_map.2 ⟨q,hq,rfl⟩) with e | e
  ·simp only [hpl q' h2 q hq e]
  ·exact absurd h3 e.1

theorem DM {s:Nat}{ds:List D}{vs:List Value}:∀ {cs:List CS} {i:Nat} {aks:List (Aff×Nat)},sF s cs i=some aks→
  (∀ (k:Nat) (c:CS) (x:D) (v:Value),cs[k]? =some c→ds[i+k]? =some x→vs[i+k]? =some v→aS w cx own s (i+k) c x v)→
  (∀ q∈aks,q.1.to= .x∧q.1.own= .x∧i≤q.2∧q.2<i+cs.length)∧(∀ q∈aks,∀ q'∈aks,q.2=q'.2→q=q')∧
  ∀ (k:Nat) (x:D) (v:Value),k<cs.length→ds[i+k]? =some x→vs[i+k]? =some v→Cell1 v∧(Scal x v∨(x= .sl []∧v= .slice none 0 0)∨∃ a,(a,i+k)∈aks∧a.f.u=true∧OwnRep w cx own (a.h,a.i+1) true a.f x v)
 | [],i,aks,h,_=>by
  simp only [sF,Option.some.injEq] at h
  subst h
  exact ⟨fun q hq=>by simp at hq,fun q hq=>by simp at hq,fun k x v hk=>by simp at hk⟩
 | c0::r,i,aks,h,hc=>by
  simp only [sF] at h
  cases hr:sF s r (i+1) with
  | none=>rw [hr] at h;simp at h
  | some ar=>
   rw [hr] at h
   obtain ⟨h1,h2,h3⟩:=DM hr (fun k c x v hk hx hv=>by
    have:=hc (k+1) c x v (by simpa using hk) (by rw [←hx];congr 1;omega) (by rw [←hv];congr 1;omega)
    rwa [show i+(k+1)=i+1+k from by omega] at this)
   have h1':∀ q∈ar,q.1.to= .x∧q.1.own= .x∧i≤q.2∧q.2<i+(c0::r).length:=fun q hq=>by
    obtain ⟨a,b,c,d⟩:=h1 q hq
    refine ⟨a,b,by omega,by simp;omega⟩
   have tail:∀ {bs:List (Aff×Nat)},(∀ q∈ar,q∈bs)→(∀ (x:D) (v:Value),ds[i]? =some x→vs[i]? =some v→Cell1 v∧(Scal x v∨(x= .sl []∧v= .slice none 0 0)∨∃ a,(a,i)∈bs∧a.f.u=true∧OwnRep w cx own (a.h,a.i+1) true a.f x v))→
     ∀ (k:Nat) (x:D) (v:Value),k<(c0::r).length→ds[i+k]? =some x→vs[i+k]? =some v→Cell1 v∧(Scal x v∨(x= .sl []∧v= .slice none 0 0)∨∃ a,(a,i+k)∈bs∧a.f.u=true∧OwnRep w cx own (a.h,a.i+1) true a.f x v):=by
    intro bs hb hz k x v hk hx hv
    cases k with
    | zero=>exact hz x v hx hv
    | succ k=>
     have:=h3 k x v (by simpa using hk) (by rw [←hx];congr 1;omega) (by rw [←hv];congr 1;omega)
     refine ⟨this.1,this.2.imp id (Or.imp id fun ⟨a,h4,h5⟩=>⟨a,?_,h5⟩)⟩
     rw [show i+(k+1)=i+1+k from by omega]
     exact hb _ h4
   have put:∀ (a:Aff),a.to= .x→a.own= .x→a.f.u=true→(∀ (x:D) (v:Value),ds[i]? =some x→vs[i]? =some v→OwnRep w cx own (a.h,a.i+1) true a.f x v)→(a,i)::ar=aks→
     (∀ q∈aks,q.1.to= .x∧q.1.own= .x∧i≤q.2∧q.2<i+(c0::r).length)∧(∀ q∈aks,∀ q'∈aks,q.2=q'.2→q=q')∧
     ∀ (k:Nat) (x:D) (v:Value),k<(c0::r).length→ds[i+k]? =some x→vs[i+k]? =some v→Cell1 v∧(Scal x v∨(x= .sl []∧v= .slice none 0 0)∨∃ a,(a,i+k)∈aks∧a.f.u=true∧OwnRep w cx own (a.h,a.i+1) true a.f x v):=by
    rintro a ha1 ha2 ha3 ha4 rfl
    refine ⟨fun q hq=>?_,fun q hq q' hq' e=>?_,tail (fun q hq=>List.mem_cons_of_mem _ hq) (fun x v hx hv=>⟨(hc 0 c0 x v rfl hx hv).1,.inr (.inr ⟨a,List.mem_cons_self ..,ha3,ha4 x v hx hv⟩)⟩)⟩
    ·rcases List.mem_cons.1 hq with rfl | hq
     ·exact ⟨ha1,ha2,Nat.le_refl _,by simp⟩
     ·exact h1' q hq
    ·rcases List.mem_cons.1 hq with e1 | hq1
     ·rcases List.mem_cons.1 hq' with e2 | hq2
      ·rw [e1,e2]
      ·have:=(h1 q' hq2).2.2.1
       rw [e1] at e
       simp only at e
       omega
     ·rcases List.mem_cons.1 hq' with e2 | hq2
      ·have:=(h1 q hq1).2.2.1
       rw [e2] at e
       simp only at e
       omega
      ·exact h2 q hq1 q' hq2 e
   have h0:∀ (x:D) (v:Value),ds[i]? =some x→vs[i]? =some v→aS w cx own s i c0 x v:=fun x v hx hv=>hc 0 c0 x v rfl hx hv
   cases c0 with
   | s=>
    simp only [Option.some.injEq] at h
    subst h
    exact ⟨h1',h2,tail (fun q hq=>hq) (fun x v hx hv=>⟨(h0 x v hx hv).1,.inl (h0 x v hx hv).2⟩)⟩
   | n=>
    simp only [Option.some.injEq] at h
    subst h
    exact ⟨h1',h2,tail (fun q hq=>hq) (fun x v hx hv=>⟨(h0 x v hx hv).1,.inr (.inl (h0 x v hx hv).2)⟩)⟩
   | r=>simp at h
   | b=>simp at h
   | x=>simp at h
   | o m f=>
    cases m with
    | false=>simp at h
    | true=>
     cases hu:f.u with
     | false=>simp [hu] at h
     | true=>
      simp only [hu,if_true,Option.some.injEq] at h
      exact put ⟨s,i,true,f,.x,.x⟩ rfl rfl hu (fun x v hx hv=>(h0 x v hx hv).2) h
   | al hh k m f=>
    cases m with
    | false=>simp at h
    | true=>
     cases hu:f.u with
     | false=>simp [hu] at h
     | true=>
      simp only [hu,if_true,Option.some.injEq] at h
      exact put ⟨hh,k,true,f,.x,.x⟩ rfl rfl hu (fun x v hx hv=>(h0 x v hx hv).2) h

theorem Ke {a:Act}{L:Look}{g:Gd}(hL:∀ z,SlotOk w cx own env (tvA a) z (L z))(hg:∀ gs b,g=some (gs,b)→env gs=[.bool b]){x:Operand}{aks:List (Aff×Nat)}(h:HJ L g x=some aks):
  ∃ ag vs,a.eval x=wrapV ag vs∧(ag=false→vs.length=1)∧((cC x).get env).length=(bY L g x).length∧vs.length=(bY L g x).length∧(∀ q∈aks,q.1.to= .x∧q.1.own= .x∧q.2<(bY L g x).length)∧(∀ q∈aks,∀ q'∈aks,q.2=q'.2→q=q')∧
   ∀ (k:Nat) (y:D) (v:Value),((cC x).get env)[k]? =some y→vs[k]? =some v→Cell1 v∧(Scal y v∨(y= .sl []∧v= .slice none 0 0)∨∃ a,(a,k)∈aks∧a.f.u=true∧OwnRep w cx own (a.h,a.i+1) true a.f y v):=by
 unfold HJ at h
 split at h
 ·rename_i v
  split at h
  ·rename_i hk
   have hcc:=wI (w:=w) (cx:=cx) (own:=own) hk 0 0
   have hcell:bY L g (.const v)=[(hY v).2]:=by simp [bY,lS,hk]
   rw [hcell]
   split at h
   ·rename_i e
    simp only [Option.some.injEq] at h
    subst h
    refine ⟨false,[v],rfl,fun _=>rfl,rfl,rfl,fun q hq=>by simp at hq,fun q hq=>by simp at hq,fun k y u hy hu=>?_⟩
    cases k with
    | succ k=>simp at hu
    | zero=>
     simp only [List.getElem?_cons_zero,Option.some.injEq] at hu
     simp only [cC,Opd.get,List.getElem?_cons_zero,Option.some.injEq] at hy
     subst hu;subst hy
     have h2:=hcc.2
     rw [e] at h2
     exact ⟨hcc.1,.inl h2⟩
   ·rename_i e
    simp only [Option.some.injEq] at h
    subst h
    refine ⟨false,[v],rfl,fun _=>rfl,rfl,rfl,fun q hq=>by simp at hq,fun q hq=>by simp at hq,fun k y u hy hu=>?_⟩
    cases k with
    | succ k=>simp at hu
    | zero=>
     simp only [List.getElem?_cons_zero,Option.some.injEq] at hu
     simp only [cC,Opd.get,List.getElem?_cons_zero,Option.some.injEq] at hy
     subst hu;subst hy
     have h2:=hcc.2
     rw [e] at h2
     exact ⟨hcc.1,.inr (.inl h2)⟩
   ·cases h
  ·cases h
 ·rename_i s
  have hs:=eV hL hg s
  split at h
  ·rename_i ag cs he
   rw [he] at hs
   obtain ⟨vs,h1,h2,h3,h4,h5⟩:=hs
   have hcell:bY L g (.tmp s)=cs:=by simp [bY,lS,he]
   obtain ⟨k1,k2,k3⟩:=DM (ds:=env s) (vs:=vs) h (fun k c x v hc hx hv=>by
    rw [Nat.zero_add] at hx hv ⊢
    exact h5 k c x v hc hx hv)
   rw [hcell]
   refine ⟨ag,vs,h1,h2,h3.symm,by rw [h4,h3],fun q hq=>?_,k2,fun k y v hy hv=>?_⟩
   ·obtain ⟨a1,a2,_,a4⟩:=k1 q hq
    exact ⟨a1,a2,by omega⟩
   ·have hk:k<cs.length:=by rw [h3];exact (List.getElem?_eq_some_iff.1 hy).1
    have:=k3 k y v hk (by rw [Nat.zero_add];exact hy) (by rw [Nat.zero_add];exact hv)
    rwa [Nat.zero_add] at this
  ·cases h
 ·cases h

end

end
section

section
variable {P:Program}{C:Cfg}{w0:World}{own0:Own}{cx:Cx}{own own':Own}{w w':World}{a:Act}{env env':Env}{L:Look}{g:Gd}{o:Oper}{u:Up}{p:PS}{d:Nat}

theorem vQ {β:Type}:∀ {l:List (Aff×β)},bE (l.map (·.1))=true→∀ {r0 r1:Aff×β},r0∈l→r1∈l→r0.1=r1.1→r0=r1
 | [],_,r0,r1,h,_,_=>by simp at h
 | c::r,h,r0,r1,h0,h1,e=>by
  simp only [List.map_cons,bE,Bool.and_eq_true,Bool.not_eq_true'] at h
  have key:∀ x∈r,x.1≠c.1:=fun x hx e=>by
   have:=List.any_eq_false.1 h.1 x.1 (List.mem_map.2 ⟨x,hx,rfl⟩)
   rw [e] at this
   simp at this
  rcases List.mem_cons.1 h0 with e0 | h0'
  ·rcases List.mem_cons.1 h1 with e1 | h1'
   ·rw [e0,e1]
   ·exact absurd (by rw [←e,e0]) (key r1 h1')
  ·rcases List.mem_cons.1 h1 with e1 | h1'
   ·exact absurd (by rw [e,e1]) (key r0 h0')
   ·exact vQ h.2 h0' h1' e

def FG (n off len:Nat):PathF
 | []=>some []
 | (n',j')::r=>if n'=n∧off≤j'∧j'<off+len then none else some ((n',j')::r)

theorem CL {n off len:Nat}{p q:List (Nat×Nat)}(h:FG n off len p=some q):q=p∧∀ j r,off≤j→j<off+len→p≠(n,j)::r:=by
 cases p with
 | nil=>
  simp only [FG,Option.some.injEq] at h
  exact ⟨h.symm,fun j r _ _ e=>by cases e⟩
 | cons c r=>
  obtain ⟨n',j'⟩:=c
  simp only [FG] at h
  split at h
  ·cases h
  ·rename_i hn
   simp only [Option.some.injEq] at h
   refine ⟨h.symm,fun j r' h1 h2 e=>hn ?_⟩
   simp only [List.cons.injEq,Prod.mk.injEq] at e
   obtain ⟨⟨e1,e2⟩,_⟩:=e
   exact ⟨e1,by omega,by omega⟩

def NR (h i n off len:Nat)(aks:List (Aff×Nat)):Leaf→Option PathF:=
 ZL (aks.map fun q=>(q.1,(n,off+q.2))) (fun l=>if gP l (h,i+1) then some (FG n off len) else none)

theorem TL {h i n off len:Nat}{aks:List (Aff×Nat)}(hne:∀ q∈aks,q.1.h≠h):NR h i n off len aks (h,i+1)=some (FG n off len):=by
 cases hm:NR h i n off len aks (h,i+1) with
 | none=>
  unfold NR ZL at hm
  split at hm
  ·cases hm
  ·simp only [bP.2 rfl,if_true] at hm
   cases hm
 | some F=>
  rcases nO hm with ⟨q,hq,h1,_⟩ | ⟨_,h1⟩
  ·obtain ⟨q0,h2,rfl⟩:=List.mem_map.1 hq
   simp only [Prod.mk.injEq] at h1
   exact absurd h1.1.symm (hne q0 h2)
  ·simp only [bP.2 rfl,if_true] at h1
   exact h1.symm

theorem aCx {h i n off len:Nat}{f:Fz}{aks:List (Aff×Nat)}(ht:∀ q∈aks,q.1.to= .x∧q.1.own= .x∧q.2<len)(hd:∀ q∈aks,∀ q'∈aks,q.2=q'.2→q=q')(hne:∀ q∈aks,q.1.h≠h){bx:List (Nat×Sh)}:
  MsOk {aff:=⟨h,i,true,f,.o true f,.x⟩::aks.map (·.1),bx:=bx } (h,i+1) (NR h i n off len aks) none where
 hit:=fun l F hl=>by
  rcases nO hl with ⟨q,hq,h1,_⟩ | ⟨_,h1⟩
  ·obtain ⟨q0,h2,rfl⟩:=List.mem_map.1 hq
   exact ⟨q0.1,List.mem_cons_of_mem _ (List.mem_map.2 ⟨q0,h2,rfl⟩),h1⟩
  ·split at h1
   ·rename_i e
    exact ⟨_,List.mem_cons_self ..,bP.1 e⟩
   ·cases h1
 inj:=fun l l' F F' pp pp' q hl hl' hF hF'=>by
  rcases nO hl with ⟨q1,hq1,h1,h2⟩ | ⟨_,h1⟩
  ·obtain ⟨q0,hq0,rfl⟩:=List.mem_map.1 hq1
   rw [h2] at hF
   simp only [Option.some.injEq] at hF
   rcases nO hl' with ⟨q1',hq1',h1',h2'⟩ | ⟨_,h1'⟩
   ·obtain ⟨q0',hq0',rfl⟩:=List.mem_map.1 hq1'
    rw [h2'] at hF'
    simp only [Option.some.injEq] at hF'
    rw [←hF'] at hF
    simp only [List.cons.injEq,Prod.mk.injEq,true_and] at hF
    have:=hd q0 hq0 q0' hq0' (by omega)
    subst this
    exact ⟨h1.trans h1'.symm,hF.2⟩
   ·split at h1'
    ·simp only [Option.some.injEq] at h1'
     rw [←h1'] at hF'
     obtain ⟨e1,e2⟩:=CL hF'
     exact absurd (by rw [←e1,←hF]) (e2 (off+q0.2) pp (by omega) (by have:=(ht q0 hq0).2.2;omega))
    ·cases h1'
  ·split at h1
   ·rename_i e
    simp only [Option.some.injEq] at h1
    rw [←h1] at hF
    obtain ⟨e1,e2⟩:=CL hF
    rcases nO hl' with ⟨q1',hq1',h1',h2'⟩ | ⟨_,h1'⟩
    ·obtain ⟨q0',hq0',rfl⟩:=List.mem_map.1 hq1'
     rw [h2'] at hF'
     simp only [Option.some.injEq] at hF'
     exact absurd (by rw [←e1,←hF']) (e2 (off+q0'.2) pp' (by omega) (by have:=(ht q0' hq0').2.2;omega))
    ·split at h1'
     ·rename_i e'
      simp only [Option.some.injEq] at h1'
      rw [←h1'] at hF'
      obtain ⟨e1',_⟩:=CL hF'
      exact ⟨(bP.1 e).trans (bP.1 e').symm,e1.symm.trans e1'⟩
     ·cases h1'
   ·cases h1
 tgt:= .inr ⟨_,TL hne⟩
 noal:=fun a ha d j m f=>by
  rcases List.mem_cons.1 ha with rfl | ha
  ·simp
  ·obtain ⟨q,hq,rfl⟩:=List.mem_map.1 ha
   rw [(ht q hq).1];simp
 nb:=fun k hk=>by cases hk

variable (hC:CfgOk P C)(hw:WOk w0 own0 cx own w)(hL:∀ z,SlotOk w cx own env (tvA a) z (L z))(hg:∀ gs b,g=some (gs,b)→env gs=[.bool b])
 (hod:o.dst=none)(hp:pstep p env=some env')
include hC hw hL hg hod hp

theorem NS {t:TypeId}{ti:TI}(hti:C.ty t=some ti){s h i off:Nat}{x:Operand}(ho:o.op= .store t (.tmp s) x){f:Fz}(hf:f.u=true)(hs:SlotOk w cx own env (tvA a) s (.el (.al h i true f) off))
  {aks:List (Aff×Nat)}(hfz:HJ L g x=some aks)(hnd:bE (⟨h,i,true,f,.o true f,.x⟩::aks.map (·.1))=true)(hsz:(bY L g x).length=ti.size)(hpos:0<ti.size)(hho:rG i f (L h)=true)(hne:∀ q∈aks,q.1.h≠h)
  (hu:u={aff:=⟨h,i,true,f,.o true f,.x⟩::aks.map (·.1),bx:=[(h,L h)] })(hpp:p= .els s off h i (cC x)):xN P cx own w a env o u env':=by
 subst hpp
 have hT:=hC t ti hti
 obtain ⟨xs,k,n,g1,o0,sz,len,cap,h1,h2,h3,h4,h5,h6,h7⟩:=hs
 obtain ⟨ag,vs,q1,q2,q3,q4,q5,q5',q6⟩:=Ke hL hg hfz
 rw [hsz] at q3 q4 q5
 have hone:∀ (i:Nat) (v:Value),vs[i]? =some v→Cell1 v:=fun i v hv=>by
  have hi:i<vs.length:=(List.getElem?_eq_some_iff.1 hv).1
  exact (q6 i _ v (List.getElem?_eq_getElem (by omega)) hv).1
 have hcells:(a.eval x).cells=vs.toArray:=by rw [q1];exact mI q2 hone
 simp only [pstep,h1] at hp
 split at hp
 rotate_left
 ·cases hp
 rename_i _ _ xs1 k1 n1 ys he1 he2
 simp only [List.cons.injEq,D.sl.injEq,D.int.injEq,and_true] at he1
 obtain ⟨rfl,rfl,rfl⟩:=he1
 split at hp
 rotate_left
 ·cases hp
 rename_i _ _ xa yb hxa hyb
 split at hp
 rotate_left
 ·cases hp
 rename_i hle
 simp only [Option.some.injEq] at hp
 subst hp
 -- the spine
 have hspine:o0=0∧own g1=some ⟨(h,i+1),[],some 0⟩:=by
  have hne:xs≠[]:=fun e=>by rw [e] at h3;simp at h3
  obtain ⟨g',_,_,_,_,_,_,e1,_,e2,_⟩:=OwnRep.opened (cx:=cx) hf h6.2 hne
  simp only [Value.slice.injEq,Option.some.injEq,Addr.mk.injEq,and_true] at e1
  obtain ⟨⟨rfl,rfl⟩,_⟩:=e1
  exact ⟨rfl,e2⟩
 obtain ⟨rfl,hown1⟩:=hspine
 have hq5:∀ q∈aks,q.1.to= .x∧q.1.own= .x∧q.2<vs.length:=fun q hq=>by rw [q4];exact q5 q hq
 have hms:MsOk u (h,i+1) (NR h i n.toNat off vs.length aks) none:=by rw [hu];exact aCx hq5 q5' hne
 have hmT:NR h i n.toNat off vs.length aks (h,i+1)=some (FG n.toNat off vs.length):=TL hne
 have hmq:∀ q∈aks,NR h i n.toNat off vs.length aks (q.1.h,q.1.i+1)=some fun p=>some ((n.toNat,off+q.2)::p):=fun q hq=>by
  have hnd2:bE ((aks.map fun q=>(q.1,(n.toNat,off+q.2))).map (·.1))=true:=by
   rw [List.map_map]
   simp only [bE,Bool.and_eq_true] at hnd
   exact hnd.2
  refine TK hnd2 (fun r hr r' hr' e=>?_) (List.mem_map.2 ⟨q,hq,rfl⟩)
  obtain ⟨r0,hr0,rfl⟩:=List.mem_map.1 hr
  obtain ⟨r1,hr1,rfl⟩:=List.mem_map.1 hr'
  simp only at e ⊢
  -- the same owner stands once
  have:r0=r1:=by
   have hnd3:bE (aks.map (·.1))=true:=by
    simp only [bE,Bool.and_eq_true] at hnd
    exact hnd.2
   exact vQ hnd3 hr0 hr1 e
  rw [this]
 -- what slot h holds
 have hkey:∀ (cs:List CS) (vsh:List Value),Yr f (cs.getD i .x)=true→cs.all oN=true→All3 (aS w cx own h) cs (env h) vsh→
   ∃ (cur:Array Value) (T:TypeId) (fr:Nat×Nat),w.heap[g1]? =some (.cells cur T fr)∧
    (∀ j,n.toNat*sz+off≤j→j<n.toNat*sz+off+vs.length→(fr.1≤j&&j<fr.2)=false)∧n.toNat*sz+off+vs.length≤cur.size∧
    ∀ (w':World),HeapOk own w w' u (fun g=>g=g1)→
     (∀ (st:Step cx own w env (tvA a) u.A u.W u.d (aU own (dG u (h,i+1) (NR h i n.toNat off vs.length aks)) w.heap.size none) w' (put env h ((env h).set i (.sl (ys.set n.toNat (cA yb off ((cC x).get env)))))) (tvA a)),
     aU own (dG u (h,i+1) (NR h i n.toNat off vs.length aks)) w.heap.size none g1=some ⟨(h,i+1),[],some 0⟩→w'.heap[g1]? =some (.cells (cur.toList.take (n.toNat*sz+off)++vs++cur.toList.drop (n.toNat*sz+off+vs.length)).toArray T fr)→
     All3 (aS w' cx (aU own (dG u (h,i+1) (NR h i n.toNat off vs.length aks)) w.heap.size none) h) cs ((env h).set i (.sl (ys.set n.toNat (cA yb off ((cC x).get env))))) vsh):=by
  intro cs vsh hci hal h3'
  have hil:i<cs.length:=by
   rcases Nat.lt_or_ge i cs.length with hh | hh
   ·exact hh
   ·rw [List.getD_eq_getElem?_getD,List.getElem?_eq_none hh] at hci;cases hci
  have hcs:cs[i]? =some (.o true f):=by
   rw [List.getD_eq_getElem?_getD,List.getElem?_eq_getElem hil] at hci
   rw [List.getElem?_eq_getElem hil]
   simp only [Option.getD_some] at hci
   unfold Yr at hci
   split at hci
   ·rename_i e;rw [e,←pO.1 hci]
   ·cases hci
  have hvi:i<vsh.length:=by rw [h3'.2.1,←h3'.1];exact hil
  have hvh:vsh[i]? =some vsh[i]:=List.getElem?_eq_getElem hvi
  have hc:=h3'.2.2 i _ _ _ hcs he2 hvh
  generalize hvhe:vsh[i]=vh at hc hvh
  have hyne:ys≠[]:=fun e=>by rw [e] at hyb;simp at hyb
  obtain ⟨g2,sz2,cap2,cur,T,fr,vs2,e0,e1,e2,e6,e8,e9,e10,_,erb⟩:=OwnRep.opened (cx:=cx) hf hc.2 hyne
  have hgg:g2=g1:=hw.inj g2 g1 _ _ e2 hown1 rfl rfl
  subst hgg
  have hszz:sz2=sz:=by
   have q1:=e8 yb (List.mem_of_getElem? hyb)
   have q2:=h4 xa (List.mem_of_getElem? hxa)
   exact q1.symm.trans (hle.1.symm.trans q2)
  subst hszz
  have hybl:yb.length=sz2:=e8 yb (List.mem_of_getElem? hyb)
  have hnl:n.toNat<ys.length:=(List.getElem?_eq_some_iff.1 hyb).1
  have hmul:n.toNat*sz2+sz2≤ys.length*sz2:=by rw [←Nat.succ_mul];exact Nat.mul_le_mul_right _ hnl
  have b2:off+((cC x).get env).length≤yb.length:=hle.2
  have hend:vs.length=0∨n.toNat*sz2+off+vs.length≤cur.size:=by
   by_cases h0:vs.length=0
   ·exact .inl h0
   ·right
    have hlast:off+vs.length - 1<yb.length:=by omega
    have:=e9 n.toNat yb (off+vs.length - 1) _ hyb (List.getElem?_eq_getElem hlast)
    have:=(Array.getElem?_eq_some_iff.1 this).1
    omega
  have hend':n.toNat*sz2+off+vs.length≤cur.size:=by
   rcases hend with h0 | h0
   ·-- nothing is written: the element's own cells lie in the row
    omega
   ·exact h0
  refine ⟨cur,T,fr,e1,fun j hj1 hj2=>e6 j (by omega),hend',fun w' hh st hown' hheap'=>?_⟩
  have b3:(n.toNat*sz2+off)+vs.length≤cur.toList.length:=by simp;omega
  refine ⟨by rw [List.length_set];exact h3'.1,by rw [List.length_set];exact h3'.2.1,fun j c y v hcj hyj hvj=>?_⟩
  by_cases hji:j=i
  ·subst hji
   rw [hcs] at hcj
   simp only [Option.some.injEq] at hcj
   subst hcj
   rw [hvh] at hvj
   simp only [Option.some.injEq] at hvj
   subst hvj
   rw [List.getElem?_set_self (by rw [←h3'.1];exact hil)] at hyj
   simp only [Option.some.injEq] at hyj
   subst hyj
   refine ⟨hc.1,?_⟩
   have hyl:(ys.set n.toNat (cA yb off ((cC x).get env))).length=ys.length:=by simp
   have hde:cA yb off ((cC x).get env)=yb.take off++(cC x).get env++yb.drop (off+((cC x).get env).length):=rfl
   have hsl:(cA yb off ((cC x).get env)).length=sz2:=by rw [hde,bQ b2];exact hybl
   have hcur:∀ j,(cur.toList.take (n.toNat*sz2+off)++vs++cur.toList.drop (n.toNat*sz2+off+vs.length)).toArray[j]? =if j<n.toNat*sz2+off then cur[j]? else if j<n.toNat*sz2+off+vs.length then vs[j - (n.toNat*sz2+off)]? else cur[j]? :=by
    intro j
    rw [List.getElem?_toArray,dA b3]
    simp
   have hcs2:(cur.toList.take (n.toNat*sz2+off)++vs++cur.toList.drop (n.toNat*sz2+off+vs.length)).toArray.size=cur.size:=by
    have:=bQ b3
    simpa using this
   have hget:∀ (i':Nat) (x':List D),(ys.set n.toNat (cA yb off ((cC x).get env)))[i']? =some x'→(i'=n.toNat∧x'=cA yb off ((cC x).get env))∨(i'≠n.toNat∧ys[i']? =some x'):=by
    intro i' x' hx'
    by_cases hin:i'=n.toNat
    ·subst hin
     rw [List.getElem?_set_self hnl] at hx'
     simp only [Option.some.injEq] at hx'
     exact .inl ⟨rfl,hx'.symm⟩
    ·rw [List.getElem?_set_ne (Ne.symm hin)] at hx'
     exact .inr ⟨hin,hx'⟩
   have hold:∀ (i' j':Nat) (d':D) (v':Value),¬(i'=n.toNat∧off≤j'∧j'<off+vs.length)→InRep w own (h,j+1) true [(i',j')] d' v'→InRep w' (aU own (dG u (h,j+1) (NR h j n.toNat off vs.length aks)) w.heap.size none) (h,j+1) true [(i',j')] d' v':=by
    intro i' j' d' v' hn hr
    refine hr.moved hw hh hmT (fun r=>?_) (fun gg ii hgg hll ⟨r,hpp⟩=>⟨fun e=>?_,fun e=>?_⟩)
    ·simp only [List.cons_append,List.nil_append,FG,if_neg hn]
    ·rw [e,hown1] at hgg
     simp only [Option.some.injEq] at hgg
     rw [←hgg] at hpp
     cases hpp
    ·have:=(hw.dom gg ii hgg).1
     omega
   -- what stands at each place, and that it is good
   have hval:∀ (i':Nat) (x':List D) (j':Nat) (d':D),(ys.set n.toNat (cA yb off ((cC x).get env)))[i']? =some x'→x'[j']? =some d'→
     ∃ v',(cur.toList.take (n.toNat*sz2+off)++vs++cur.toList.drop (n.toNat*sz2+off+vs.length)).toArray[i'*sz2+j']? =some v'∧InRep w' (aU own (dG u (h,j+1) (NR h j n.toNat off vs.length aks)) w.heap.size none) (h,j+1) true [(i',j')] d' v':=by
    intro i' x' j' d' hx' hd'
    rcases hget i' x' hx' with ⟨rfl,rfl⟩ | ⟨hin,hx2⟩
    ·have hj':j'<sz2:=by rw [←hsl];exact (List.getElem?_eq_some_iff.1 hd').1
     rw [hde,dA b2] at hd'
     rw [hcur]
     by_cases c1:j'<off
     ·rw [if_pos c1] at hd'
      rw [if_pos (by omega)]
      exact ⟨_,e9 _ yb j' d' hyb hd',hold _ _ _ _ (by omega) (e10 _ yb j' d' hyb hd')⟩
     ·rw [if_neg c1] at hd'
      rw [if_neg (by omega)]
      by_cases c2:j'<off+((cC x).get env).length
      ·rw [if_pos c2] at hd'
       rw [if_pos (by omega)]
       have hjv:j' - off<vs.length:=by omega
       have hv':vs[j' - off]? =some vs[j' - off]:=List.getElem?_eq_getElem hjv
       refine ⟨vs[j' - off],by rw [←hv'];congr 1;omega,?_⟩
       rcases (q6 _ d' _ hd' hv').2 with hsc | ⟨hd0,hv0⟩ | ⟨aa,haa,hau,hor⟩
       ·exact .scal hsc
       ·rw [hd0,hv0];exact .nil _ _ _
       ·have:=(OwnRep.inr hau hor).moved (T:=(h,j+1)) (gi:=w.heap.size) (nb:=none) (q:=[(n.toNat,off+(j' - off))]) hw hh (hmq _ haa) (fun r=>by simp) (fun gg ii hgg hll _=>⟨fun e=>?_,fun e=>?_⟩)
        ·rwa [show off+(j' - off)=j' from by omega] at this
        ·rw [e,hown1] at hgg
         simp only [Option.some.injEq] at hgg
         rw [←hgg] at hll
         simp only [Prod.mk.injEq] at hll
         exact hne _ haa hll.1.symm
        ·have:=(hw.dom gg ii hgg).1
         omega
      ·rw [if_neg c2] at hd'
       rw [if_neg (by omega)]
       exact ⟨_,e9 _ yb j' d' hyb hd',hold _ _ _ _ (by omega) (e10 _ yb j' d' hyb hd')⟩
    ·have hj':j'<sz2:=by rw [←e8 x' (List.mem_of_getElem? hx2)];exact (List.getElem?_eq_some_iff.1 hd').1
     rw [hcur]
     have hout:¬(n.toNat*sz2+off≤i'*sz2+j'∧i'*sz2+j'<n.toNat*sz2+off+vs.length):=by
      rintro ⟨hx1,hx3⟩
      rcases Nat.lt_or_gt_of_ne hin with hlt | hgt
      ·have:i'*sz2+sz2≤n.toNat*sz2:=by rw [←Nat.succ_mul];exact Nat.mul_le_mul_right _ hlt
       omega
      ·have:n.toNat*sz2+sz2≤i'*sz2:=by rw [←Nat.succ_mul];exact Nat.mul_le_mul_right _ hgt
       omega
     refine ⟨vs2 i' j',?_,hold _ _ _ _ (fun e=>hin e.1) (e10 i' x' j' d' hx2 hd')⟩
     split
     ·exact e9 i' x' j' d' hx2 hd'
     ·rw [if_neg (by omega)]
      exact e9 i' x' j' d' hx2 hd'
   exact erb w' _ (h,j+1) (ys.set n.toNat (cA yb off ((cC x).get env))) _ (fun i' j'=>((cur.toList.take (n.toNat*sz2+off)++vs++cur.toList.drop (n.toNat*sz2+off+vs.length)).toArray[i'*sz2+j']?).getD undef) hyl hheap' hcs2 hown'
    (fun x' hx'=>by
     obtain ⟨i',hi'⟩:=List.getElem?_of_mem hx'
     rcases hget i' x' hi' with ⟨_,rfl⟩ | ⟨_,hx2⟩
     ·exact hsl
     ·exact e8 x' (List.mem_of_getElem? hx2))
    (fun i' x' j' d' hx' hd'=>by
     obtain ⟨v',hv',_⟩:=hval i' x' j' d' hx' hd'
     rw [hv'];rfl)
    (fun i' x' j' d' hx' hd'=>by
     obtain ⟨v',hv',hr'⟩:=hval i' x' j' d' hx' hd'
     rw [hv']
     exact hr')
  ·rw [List.getElem?_set_ne (Ne.symm hji)] at hyj
   refine wL st (List.all_eq_true.1 hal c (List.mem_of_getElem? hcj)) (fun m f hcf hAA=>?_) (h3'.2.2 j c y v hcj hyj hvj)
   rcases hAA with hh | ⟨_,_,_,hh⟩ | ⟨jj,hh,hh'⟩
   ·rw [hu] at hh;simp [Up.isDst] at hh
   ·simp at hh
   ·simp only [Nat.add_right_cancel_iff] at hh
    subst hh
    rcases hh' with hh' | hh'
    ·obtain ⟨z,hz⟩:=Option.isSome_iff_exists.1 hh'
     obtain ⟨z1,z2,z3⟩:=Up.find_some hz
     rw [hu] at z1
     rcases List.mem_cons.1 z1 with rfl | z1
     ·exact hji z3.symm
     ·obtain ⟨q,hq,rfl⟩:=List.mem_map.1 z1
      exact hne q hq z2
    ·obtain ⟨z,hz,hto⟩:=List.any_eq_true.1 hh'
     exact absurd hto (by
      rw [hu] at hz
      rcases List.mem_cons.1 hz with rfl | hz
      ·simp [CS.isTo]
      ·obtain ⟨q,hq,rfl⟩:=List.mem_map.1 hz
       rw [(hq5 q hq).1];simp [CS.isTo])
 have hA:u.A (h,i+1):= .inr (.inr ⟨i,rfl,.inl (by
  rw [hu]
  simp [Up.find])⟩)
 have hlab:aU own (dG u (h,i+1) (NR h i n.toNat off vs.length aks)) w.heap.size none g1=some ⟨(h,i+1),[],some 0⟩:=by
  rw [mH hw hown1]
  simp only [dG,hmT,FG,Option.map_some]
 -- the run
 have main:∀ (cs:List CS) (vsh:List Value),Yr f (cs.getD i .x)=true→cs.all oN=true→All3 (aS w cx own h) cs (env h) vsh→
   (∀ (w':World) (own':Own),own'=aU own (dG u (h,i+1) (NR h i n.toNat off vs.length aks)) w.heap.size none→(∀ g,g≠g1→w'.heap[g]? =w.heap[g]?)→
    All3 (aS w' cx own' h) cs ((env h).set i (.sl (ys.set n.toNat (cA yb off ((cC x).get env))))) vsh→
    SlotOk w' cx own' (put env h ((env h).set i (.sl (ys.set n.toNat (cA yb off ((cC x).get env)))))) (tvA a) h (L h))→xN P cx own w a env o u (put env h ((env h).set i (.sl (ys.set n.toNat (cA yb off ((cC x).get env)))))):=by
  intro cs vsh hci hal h3' hslot
  obtain ⟨cur,T,fr,e1,e2,e3,e4⟩:=hkey cs vsh hci hal h3'
  have had:a.eval (.tmp s)= .pointer (some ⟨g1,n.toNat*sz+off,none⟩):=by rw [zY,h7,Nat.zero_add]
  have hr:=xO hT ho had hcells q4 e1 e2 e3 hone
  have b3:(n.toNat*sz+off)+vs.length≤cur.toList.length:=by simpa using e3
  have hfsz:(cur.toList.take (n.toNat*sz+off)++vs++cur.toList.drop (n.toNat*sz+off+vs.length)).toArray.size=cur.size:=by
   have:=bQ b3
   simpa using this
  refine BB hod hr (own':=aU own (dG u (h,i+1) (NR h i n.toNat off vs.length aks)) w.heap.size none) ?_
  have hh:=HeapOk.row' own w u e1 hfsz hown1 hA rfl
  refine Gs (nb:=none) (gb:=fun g=>g=g1) hw hh (by rw [hu];exact hnd) (.inl ⟨rfl,fun k hk=>by cases hk⟩) (fun g i' hgg hi=>?_) hms (fun y hy=>?_)
   (fun z hz=>?_) (fun _ _=>rfl) rfl rfl (fun st af=>⟨fun p hp _=>?_,fun d' sh' he=>?_⟩)
  ·have hg1:g=g1:=by
    rcases hgg with h | h
    ·exact h
    ·have:=(hw.dom g i' hi).1
     omega
   subst hg1
   rw [hown1] at hi
   simp only [Option.some.injEq] at hi
   subst hi
   exact ⟨_,by rw [hu];exact List.mem_cons_self ..,rfl⟩
  ·rw [hu] at hy
   rcases List.mem_cons.1 hy with rfl | hy
   ·exact ⟨rfl,.inr (.inr ⟨_,by rw [hu];exact List.mem_cons_self ..,rfl⟩)⟩
   ·obtain ⟨q,hq,rfl⟩:=List.mem_map.1 hy
    exact ⟨(hq5 q hq).1,.inl (hq5 q hq).2.1⟩
  ·refine cY _ _ _ _ (fun e=>hz (.inr ⟨_,by rw [hu];exact List.mem_cons_self ..,e.symm⟩))
  ·rw [hu] at hp
   simp only [List.mem_singleton] at hp
   subst hp
   exact hslot _ _ rfl (fun g hgg=>setRow_other w g1 g _ hgg) (e4 _ hh st hlab (setRow_heap w g1 cur _ T fr e1))
  ·rw [hu] at he;cases he
 have hLh:=hL h
 cases hsh:L h with
 | v ag' cs=>
  rw [hsh] at hLh hho
  simp only [rG,Bool.and_eq_true] at hho
  obtain ⟨vsh,r1,r2,r3⟩:=hLh
  refine main cs vsh hho.1 hho.2 r3 (fun w' own' _ _ h3''=>?_)
  rw [hsh]
  exact ⟨vsh,r1,r2,by rw [aI];exact h3''⟩
 | box ro cs=>
  rw [hsh] at hLh hho
  cases ro with
  | true=>cases hho
  | false=>
   simp only [rG,Bool.and_eq_true] at hho
   obtain ⟨gb,cur,T,r1,r2,r3,r4⟩:=hLh
   simp only [Bool.false_eq_true,if_false] at r4
   refine main cs cur.toList hho.1 hho.2 r3 (fun w' own' ho' hh' h3''=>?_)
   rw [hsh]
   have hgne:gb≠g1:=fun e=>by
    rw [e,hown1] at r4
    simp at r4
   refine ⟨gb,cur,T,r1,(hh' gb hgne).trans r2,by rw [aI];exact h3'',?_⟩
   simp only [Bool.false_eq_true,if_false]
   rw [ho',mH hw r4]
   have hnone:NR h i n.toNat off vs.length aks (h,0)=none:=by
    cases hx:NR h i n.toNat off vs.length aks (h,0) with
    | none=>rfl
    | some F=>
     obtain ⟨y,_,hy⟩:=hms.hit _ _ hx
     simp at hy
   simp only [dG,hnone,aX]
   rw [hu]
   rfl
 | _=>rw [hsh] at hho;cases hho

end

end
section

section
variable {P:Program}{C:Cfg}{w0:World}{own0:Own}{cx:Cx}{own own':Own}{w w':World}{a:Act}{env env':Env}{L:Look}{g:Gd}{o:Oper}{u:Up}{p:PS}{d:Nat}

theorem Wp (hC:CfgOk P C)(hw:WOk w0 own0 cx own w)(hL:∀ z,SlotOk w cx own env (tvA a) z (L z))(hg:∀ gs b,g=some (gs,b)→env gs=[.bool b])
  (hod:o.dst=none)(hp:pstep p env=some env'){t:TypeId}{ad x:Operand}(ho:o.op= .store t ad x)(hc:Pw C L g t ad x=some (u,p)):xN P cx own w a env o u env':=by
 unfold Pw at hc
 split at hc
 ·rename_i ti s hti
  have hs:=eV hL hg s
  have box:∀ (b off gg:Nat),tvA a b= .pointer (some ⟨gg,0,none⟩)→tvA a s= .pointer (some ⟨gg,off,none⟩)→
    (match L b with
     | .box false cs=>
      if off+ti.size≤cs.length then
       let old:=qA cs b off ti.size
       match pY L g b off x with
       | some (aas,_,xs)=>
        if xs.length=ti.size∧bE (old++aas)∧cs.all oN then
         some ({aff:=old++aas,bx:=[(b,.box false (cs.take off++xs++cs.drop (off+ti.size)))] },PS.st b off (cC x))
        else none
       | none=>none
      else none
     | _=>none)=some (u,p)→xN P cx own w a env o u env':=by
   intro b off gg h1 h2 hc
   split at hc
   ·rename_i cs hb
    split at hc
    ·rename_i hle
     simp only at hc
     split at hc
     ·rename_i aas ag xs hpc
      split at hc
      ·rename_i hk
       simp only [Option.some.injEq,Prod.mk.injEq] at hc
       exact NP hC hw hL hg hod hp hti ho h1 h2 hb hpc hk.1 hle hk.2.1 hk.2.2 hc.1.symm hc.2.symm
      ·cases hc
     ·cases hc
    ·cases hc
   ·cases hc
  simp only at hc
  split at hc
  ·rename_i ro cs he
   rw [he] at hs
   obtain ⟨gg,cur,T,h1,_⟩:=hs
   exact box s 0 gg h1 h1 hc
  ·rename_i b off he
   rw [he] at hs
   obtain ⟨gg,h1,h2⟩:=hs
   exact box b off gg h1 h2 hc
  ·rename_i h i fsz off he
   rw [he] at hs
   split at hc
   ·rename_i aas hfz
    split at hc
    ·rename_i hk
     simp only [Bool.and_eq_true] at hk
     simp only [Option.some.injEq,Prod.mk.injEq] at hc
     refine QO (i:=i) hC hw hL hg hod hp hti ho hs hfz hk.1.1.1 (Nat.eq_of_beq_eq_true hk.1.1.2) hk.1.2 (fun y hy e=>?_) hc.1.symm hc.2.symm
     have:=List.all_eq_true.1 hk.2 y hy
     rw [e] at this
     simp at this
    ·cases hc
   ·cases hc
  ·rename_i h i fsz off he
   rw [he] at hs
   split at hc
   ·rename_i aks hfz
    split at hc
    ·rename_i hk
     simp only [Bool.and_eq_true] at hk
     simp only [Option.some.injEq,Prod.mk.injEq] at hc
     refine NS (i:=i) (f:=⟨fsz,true⟩) hC hw hL hg hod hp hti ho rfl hs hfz hk.1.1.1.1 (Nat.eq_of_beq_eq_true hk.1.1.1.2) (Nat.le_of_ble_eq_true hk.1.1.2) hk.1.2 (fun y hy e=>?_) hc.1.symm hc.2.symm
     have:=List.all_eq_true.1 hk.2 y hy
     rw [e] at this
     simp at this
    ·cases hc
   ·cases hc
  ·rename_i b es off he
   rw [he] at hs
   split at hc
   ·rename_i cs hb
    split at hc
    ·rename_i hk
     simp only [Option.some.injEq,Prod.mk.injEq] at hc
     exact QN hC hw hL hg hod hp hti ho hs hb hk.1 hk.2.1 hk.2.2 hc.1.symm hc.2.symm
    ·cases hc
   ·cases hc
  ·cases hc
 ·cases hc

theorem jM {tv':Nat→Value}(d:Nat)(m:Bool){uu:Bool}{xs:List (List D)}{gg sz cap:Nat}{cur:Array Value}{T:TypeId}{fr:Nat×Nat}(htv:tv' d= .slice (some ⟨gg,0,none⟩) xs.length cap)(henv:env' d=[.sl xs])
  (hh:w'.heap[gg]? =some (.cells cur T fr))(ho:own' gg=some ⟨(d,1),[],if m then some 0 else some (xs.length*sz)⟩)(hcap:xs.length≤cap)(hmax:cap≤maxLen)(hsz:cap*sz≤cur.size)
  (hfr:∀ o,(o<cap*sz∨1<sz)→(fr.1≤o&&o<fr.2)=false)(hpos:0<sz)(hall:∀ x∈xs,x.length=sz)
  (hval:∀ (i:Nat) (x:List D) (j:Nat) (y:D),xs[i]? =some x→x[j]? =some y→∃ v,cur[i*sz+j]? =some v∧ElRep w' cx own' (d,1) m uu i j y v):
  SlotOk w' cx own' env' tv' d (.v false [.o m ⟨sz,uu⟩]):=by
 refine ⟨[.slice (some ⟨gg,0,none⟩) xs.length cap],htv,fun _=>rfl,by rw [henv];rfl,by rw [henv];rfl,fun i c x v hc hx hv=>?_⟩
 rw [henv] at hx
 cases i with
 | zero=>
  simp only [List.getElem?_cons_zero,Option.some.injEq] at hc hx hv
  subst hc;subst hx;subst hv
  refine ⟨⟨fun _=>by simp,fun _=>by simp⟩,?_⟩
  refine OwnRep.sl xs gg cap cur T fr (fun i j=>(cur[i*sz+j]?).getD undef) hh ho hcap hmax hsz hfr hpos hall (fun i x j dd hx hj=>?_) (fun i x j dd hx hj=>?_)
  ·obtain ⟨v,hv,_⟩:=hval i x j dd hx hj
   rw [hv];rfl
  ·obtain ⟨v,hv,hr⟩:=hval i x j dd hx hj
   rw [hv]
   exact hr
 | succ i=>simp at hc

theorem Kf (z:List Value)(n sz:Nat)(hl:z.length=sz)(hpos:0<sz){i j:Nat}(hi:i<n)(hj:j<sz):
  (((Array.range (n*sz)).map (fun k=>z.toArray[k % z.toArray.size]!)):Array Value)[i*sz+j]? =z[j]? :=by
 have hlt:i*sz+j<n*sz:=by
  have:i*sz+sz≤n*sz:=by rw [←Nat.succ_mul];exact Nat.mul_le_mul_right _ hi
  omega
 rw [Array.getElem?_map]
 have:(Array.range (n*sz))[i*sz+j]? =some (i*sz+j):=by simp [hlt]
 rw [this]
 have hm:(i*sz+j) % sz=j:=by rw [Nat.mul_comm,Nat.mul_add_mod,Nat.mod_eq_of_lt hj]
 simp only [Option.map_some,List.size_toArray,hl,hm]
 rw [List.getElem?_eq_getElem (by omega)]
 simp [hl,hj]

theorem Hd (cx:Cx)(own:Own){zs:List D}{z:Value}(hz:zsChk zs z.cells.toList=true)(hn:KN zs=true){j:Nat}{x:D}{v:Value}(hx:zs[j]? =some x)(hv:z.cells.toList[j]? =some v)(S:Nat→Nat→Prop):Rep w S x v:=by
 have h1:=xI (mW hz hx hv) 0 0 w cx own
 have h2:=List.all_eq_true.1 hn x (List.mem_of_getElem? hx)
 have h3:=h1.2
 cases x with
 | int k n=>exact .scal h3
 | bool b=>exact .scal h3
 | str s=>exact .scal h3
 | sl xs=>obtain ⟨e1,e2⟩:=h3;rw [e1,e2];exact .nil _ _
 | fn _ _ _=>cases h2
 | bad=>cases h2

theorem Wq {own:Own}{zs:List D}{z:Value}(hz:zsChk zs z.cells.toList=true)(hn:KN zs=true){j:Nat}{x:D}{v:Value}(hx:zs[j]? =some x)(hv:z.cells.toList[j]? =some v)(lf:Leaf)(m:Bool)(q:List (Nat×Nat)):InRep w own lf m q x v:=by
 have h1:=xI (mW hz hx hv) 0 0 w ⟨fun _ _=>True,fun _ _=>True,fun _=>True⟩ own
 have h2:=List.all_eq_true.1 hn x (List.mem_of_getElem? hx)
 have h3:=h1.2
 cases x with
 | int k n=>exact .scal h3
 | bool b=>exact .scal h3
 | str s=>exact .scal h3
 | sl xs=>obtain ⟨e1,e2⟩:=h3;rw [e1,e2];exact .nil _ _ _
 | fn _ _ _=>cases h2
 | bad=>cases h2

variable (hC:CfgOk P C)(hw:WOk w0 own0 cx own w)(hL:∀ z,SlotOk w cx own env (tvA a) z (L z))(hg:∀ gs b,g=some (gs,b)→env gs=[.bool b])
 (hod:o.dst=some d)(hd:d<a.tmps.size)(hn:∀ d sh,u.dst=some (d,sh)→sh.names d=false)(hp:pstep p env=some env')
include hC hw hL hg hod hd hn hp

theorem ZM {t:TypeId}{n c:Operand}(ho:o.op= .makeSlice t n c)(hc:WL C L g d t n c=some (u,p)):nM P cx own w a env o u env':=by
 unfold WL at hc
 split at hc
 ·rename_i ti hti
  split at hc
  ·rename_i e hde
   split at hc
   ·rename_i ei hei
    split at hc
    ·rename_i hk
     simp only [Bool.and_eq_true] at hk
     obtain ⟨⟨⟨hns,hpos⟩,hk1⟩,hk2⟩:=hk
     have hpos':0<ei.size:=Nat.le_of_ble_eq_true hpos
     simp only [bS,Option.some.injEq,Prod.mk.injEq] at hc
     obtain ⟨rfl,rfl⟩:=hc
     obtain ⟨dx,vx,h1,h2,h3⟩:=EJ hL hg hk1
     obtain ⟨dy,vy,h4,h5,h6⟩:=EJ hL hg hk2
     simp only [pstep,h2,h5] at hp
     split at hp
     ·rename_i k1 l k2 m he1 he2
      simp only [List.cons.injEq,and_true] at he1 he2
      subst he1;subst he2
      split at hp
      ·rename_i hb
       obtain ⟨hb1,hb2,hb3⟩:=hb
       simp only [Option.some.injEq] at hp
       subst hp
       have hvx:=h3.int'
       have hvy:=h6.int'
       have hE:=hC e ei hei
       obtain ⟨z,hz1,hz2,_⟩:=hE.zeroV w
       obtain ⟨ie,hi1,hi2,hi3,hi4⟩:=hE.info
       have hu:=(hC t ti hti).slice hde
       have hb3':m≤1073741824:=by
        have:(lim:Int)=1073741824:=rfl
        omega
       obtain ⟨ie',z',hj1,hj2,hj3,_⟩:=hE.zero
       have hr:(execOp a.eval o).run P w= .ok (.value (.slice (some ⟨w.heap.size,0,none⟩) l.toNat m.toNat)) (w.alloc (.cells (madeCells z.cells (m.toNat*ei.size)) e)):=by
        have hie:ie'=ie:=by rw [hi1] at hj1;exact (Option.some.inj hj1).symm
        subst hie
        have hzz:z'=z:=by
         have:(zeroValue e).run P w= .ok z' w:=by simp [zeroValue,typeInfo,hi1,hj2]
         rw [this] at hz1
         cases hz1;rfl
        subst hzz
        have hbb:(ie'.bytes:Int)*m≤281474976710656:=by
         have e1:(ie'.bytes:Int)≤100000:=by omega
         have e2:(ie'.bytes:Int)*m≤100000*1073741824:=Int.mul_le_mul e1 hb3' (by omega) (by omega)
         omega
        have:=run_make (P:=P) w t e ie' z' hu hi1 hj2 k1 k2 l m hb1 hb2 hbb (by omega)
        unfold execOp
        simp only [ho,h1,h4,hvx,hvy,Sem.run_bind,this,Result.andThen_ok,Sem.run_pure,hi2]
       refine ⟨_,aU own (aX {dst:=some (d,.v false [.o true ⟨ei.size,C.mv⟩]) }) w.heap.size (some ⟨(d,1),[],some 0⟩),_,hr,?_⟩
       rw [hod]
       refine fG (nb:=some ⟨(d,1),[],some 0⟩) hw (HeapOk.alloc own w _ _) (fun g i h=>h.elim) rfl (fun a ha=>by simp at ha) (fun k hk=>?_)
        (fun s hs=>cY _ _ _ _ (eB hs)) (fun s hs=>by rw [aQ a d _ hd,if_neg (rR hs)]) (by simp [Act.put]) rfl (fun st af=>⟨fun p hp=>by simp at hp,fun d' sh' he=>?_⟩)
       ·simp only [Option.some.injEq] at hk
        subst hk
        exact ⟨by show _<(w.heap.push _).size;simp,Nat.beq_refl _,.inr (fun a ha=>by simp at ha)⟩
       ·simp only [Option.some.injEq,Prod.mk.injEq] at he
        obtain ⟨rfl,rfl⟩:=he
        have hzl:z.cells.toList.length=ei.size:=by rw [mV hz2];exact hE.len
        have hxl:(List.replicate l.toNat ei.zero).length=l.toNat:=List.length_replicate ..
        refine jM d true (xs:=List.replicate l.toNat ei.zero) (sz:=ei.size) (cap:=m.toNat) (by rw [aQ a d _ hd,if_pos rfl,hxl]) (aI _ _ _) (heap_alloc_new w _) (by simp [aU]) (by rw [hxl];omega) (by
          have:maxLen=9223372036854775806∨1073741824≤maxLen:=by right;decide
          rcases this with h | h<;>omega) (Nat.le_of_eq (size_madeCells _ _).symm) (fun o _=>by simp) hpos' (fun x hx=>by rw [List.eq_of_mem_replicate hx];exact hE.len) (fun i x j dd hx hj=>?_)
        have hil:i<l.toNat:=by
         have:=(List.getElem?_eq_some_iff.1 hx).1
         rwa [hxl] at this
        have hxe:x=ei.zero:=List.eq_of_mem_replicate (List.mem_of_getElem? hx)
        subst hxe
        have hjl:j<ei.size:=by rw [←hE.len];exact (List.getElem?_eq_some_iff.1 hj).1
        have hv:z.cells.toList[j]? =some z.cells.toList[j]:=List.getElem?_eq_getElem (by omega)
        refine ⟨z.cells.toList[j],?_,?_⟩
        rotate_left
        ·cases C.mv with
         | false=>exact Hd cx own hz2 hns hj hv _
         | true=>exact Wq hz2 hns hj hv _ _ _
        have:=Kf z.cells.toList m.toNat ei.size hzl hpos' (i:=i) (by omega) hjl
        rw [Array.toArray_toList] at this
        unfold madeCells
        rw [this,hv]
      ·cases hp
     ·cases hp
    ·cases hc
   ·cases hc
  ·cases hc
 ·cases hc

end

end
section

section
variable {P:Program}{C:Cfg}{w0:World}{own0:Own}{cx:Cx}{own own':Own}{w w':World}{a:Act}{env env':Env}{L:Look}{g:Gd}{o:Oper}{u:Up}{p:PS}{d:Nat}

def NT (a:Act)(env:Env)(size len:Nat)(G:Nat→Nat→D→Value→Prop)(p:Nat×Operand):Prop:=
 p.1<len∧∃ ag us,a.eval p.2=wrapV ag us∧(ag=false→us.length=1)∧us.length=size∧((cC p.2).get env).length=size∧
  ∀ (k:Nat) (y:D) (v:Value),((cC p.2).get env)[k]? =some y→us[k]? =some v→Cell1 v∧G p.1 k y v

def He (size len:Nat)(G:Nat→Nat→D→Value→Prop)(xs:List (List D))(vs:List Value):Prop:=
 vs.length=len*size∧xs.length=len∧(∀ x∈xs,x.length=size)∧
  ∀ (i:Nat) (x:List D) (j:Nat) (d:D),xs[i]? =some x→x[j]? =some d→∃ v,vs[i*size+j]? =some v∧G i j d v

theorem Hf {size len:Nat}{G:Nat→Nat→D→Value→Prop}:∀ {parts:List (Nat×Operand)} {vs:List Value} {xs:List (List D)},(∀ p∈parts,NT a env size len G p)→He size len G xs vs→
  ∃ vs2:List Value,Instr.fill (fun i=>some (i*size,size)) vs.toArray (parts.map fun p=>(p.1,a.eval p.2))=some vs2.toArray∧He size len G (CI env xs (parts.map fun p=>(p.1,cC p.2))) vs2
 | [],vs,xs,_,h=>⟨vs,rfl,h⟩
 | (k0,x)::r,vs,xs,hp,h=>by
  obtain ⟨h1,h2,h3,h4⟩:=h
  obtain ⟨g1,ag,us,g2,g3,g4,g5,g6⟩:=hp (k0,x) (List.mem_cons_self ..)
  have hcells:(a.eval x).cells=us.toArray:=by
   rw [g2]
   exact mI g3 (fun i v hv=>by
    have hi:i<us.length:=(List.getElem?_eq_some_iff.1 hv).1
    exact (g6 i _ v (List.getElem?_eq_getElem (by omega)) hv).1)
  have hb:k0*size+size≤vs.length:=by
   rw [h1,←Nat.succ_mul]
   exact Nat.mul_le_mul_right _ g1
  have b3:k0*size+us.length≤vs.length:=by omega
  have hnew:He size len G (xs.set k0 ((cC x).get env)) (vs.take (k0*size)++us++vs.drop (k0*size+us.length)):=by
   refine ⟨by rw [bQ b3];exact h1,by simpa using h2,fun y hy=>?_,fun i y j dd hy hd=>?_⟩
   ·rcases List.mem_or_eq_of_mem_set hy with hy | rfl
    ·exact h3 y hy
    ·exact g5
   ·rw [dA b3]
    by_cases hik:i=k0
    ·subst hik
     rw [List.getElem?_set_self (by omega)] at hy
     simp only [Option.some.injEq] at hy
     subst hy
     have hj:j<size:=by rw [←g5];exact (List.getElem?_eq_some_iff.1 hd).1
     have hv:us[j]? =some us[j]:=List.getElem?_eq_getElem (by omega)
     rw [if_neg (by omega),if_pos (by omega)]
     exact ⟨us[j],by rw [←hv];congr 1;omega,(g6 j dd _ hd hv).2⟩
    ·rw [List.getElem?_set_ne (Ne.symm hik)] at hy
     have hj:j<size:=by rw [←h3 y (List.mem_of_getElem? hy)];exact (List.getElem?_eq_some_iff.1 hd).1
     have hout:¬(k0*size≤i*size+j∧i*size+j<k0*size+us.length):=by
      rintro ⟨hx1,hx3⟩
      rcases Nat.lt_or_gt_of_ne hik with hlt | hgt
      ·have:i*size+size≤k0*size:=by rw [←Nat.succ_mul];exact Nat.mul_le_mul_right _ hlt
       omega
      ·have:k0*size+size≤i*size:=by rw [←Nat.succ_mul];exact Nat.mul_le_mul_right _ hgt
       omega
     obtain ⟨v,hv,hG⟩:=h4 i y j dd hy hd
     refine ⟨v,?_,hG⟩
     split
     ·exact hv
     ·rw [if_neg (by omega)];exact hv
  obtain ⟨vs2,e1,e2⟩:=Hf (fun p hp'=>hp p (List.mem_cons_of_mem _ hp')) hnew
  refine ⟨vs2,?_,e2⟩
  rw [List.map_cons,Kc (fun i=>some (i*size,size)) rfl hcells g4 hb]
  have:vs.take (k0*size)++us++vs.drop (k0*size+size)=vs.take (k0*size)++us++vs.drop (k0*size+us.length):=by rw [g4]
  rw [this]
  exact e1

theorem Bg {L:Look}{g:Gd}:∀ {parts:List (Nat×Operand)} {aas:List Aff},wD L g parts=some aas→(∀ p∈parts,∃ asp,pZ L g p.2=some asp∧∀ y∈asp,y∈aas)∧∀ y∈aas,∃ p∈parts,∃ asp,pZ L g p.2=some asp∧y∈asp
 | [],aas,h=>by
  simp only [wD,Option.some.injEq] at h
  subst h
  exact ⟨fun p hp=>by simp at hp,fun y hy=>by simp at hy⟩
 | (k,x)::r,aas,h=>by
  simp only [wD] at h
  split at h
  ·rename_i as1 bs h1 h2
   simp only [Option.some.injEq] at h
   subst h
   obtain ⟨i1,i2⟩:=Bg h2
   refine ⟨fun p hp=>?_,fun y hy=>?_⟩
   ·rcases List.mem_cons.1 hp with rfl | hp
    ·exact ⟨as1,h1,fun y hy=>List.mem_append_left _ hy⟩
    ·obtain ⟨asp,e1,e2⟩:=i1 p hp
     exact ⟨asp,e1,fun y hy=>List.mem_append_right _ (e2 y hy)⟩
   ·rcases List.mem_append.1 hy with hy | hy
    ·exact ⟨(k,x),List.mem_cons_self ..,as1,h1,hy⟩
    ·obtain ⟨p,hp,asp,e1,e2⟩:=i2 y hy
     exact ⟨p,List.mem_cons_of_mem _ hp,asp,e1,e2⟩
  ·cases h

theorem DN {L:Look}{g:Gd}(hL:∀ z,SlotOk w cx own env (tvA a) z (L z))(hg:∀ gs b,g=some (gs,b)→env gs=[.bool b]):∀ {parts:List (Nat×Operand)} {qs:List (Aff×(Nat×Nat))},kV L g parts=some qs→eM (parts.map (·.1))=true→
  (∀ q∈qs,q.1.to= .x∧q.1.own= .x)∧(∀ q∈qs,∀ q'∈qs,q.2=q'.2→q=q')∧
  ∀ p∈parts,∃ ag vs,a.eval p.2=wrapV ag vs∧(ag=false→vs.length=1)∧((cC p.2).get env).length=(bY L g p.2).length∧vs.length=(bY L g p.2).length∧
   ∀ (k:Nat) (y:D) (v:Value),((cC p.2).get env)[k]? =some y→vs[k]? =some v→Cell1 v∧(Scal y v∨(y= .sl []∧v= .slice none 0 0)∨∃ aa,(aa,(p.1,k))∈qs∧aa.f.u=true∧OwnRep w cx own (aa.h,aa.i+1) true aa.f y v)
 | [],qs,h,_=>by
  simp only [kV,Option.some.injEq] at h
  subst h
  exact ⟨fun q hq=>by simp at hq,fun q hq=>by simp at hq,fun p hp=>by simp at hp⟩
 | (k0,x)::r,qs,h,hd=>by
  simp only [kV] at h
  split at h
  rotate_left
  ·cases h
  rename_i aks ps hx hr
  simp only [Option.some.injEq] at h
  subst h
  simp only [List.map_cons,eM,Bool.and_eq_true,Bool.not_eq_true'] at hd
  obtain ⟨i1,i2,i3⟩:=DN hL hg hr hd.2
  obtain ⟨ag,vs,c1,c2,c3,c4,c5,c6,c7⟩:=Ke hL hg hx
  have hin:∀ {r:List (Nat×Operand)} {ps:List (Aff×(Nat×Nat))},kV L g r=some ps→∀ q∈ps,q.2.1∈r.map (·.1):=by
   intro r
   induction r with
   | nil=>intro ps h q hq;simp only [kV,Option.some.injEq] at h;subst h;simp at hq
   | cons p r ih=>
    intro ps h q hq
    obtain ⟨k1,x1⟩:=p
    simp only [kV] at h
    split at h
    ·rename_i aks' ps' _ hr'
     simp only [Option.some.injEq] at h
     subst h
     rcases List.mem_append.1 hq with hq | hq
     ·obtain ⟨q0,_,rfl⟩:=List.mem_map.1 hq
      exact List.mem_cons_self ..
     ·exact List.mem_cons_of_mem _ (ih hr' q hq)
    ·cases h
  have hne:∀ q∈ps,q.2.1≠k0:=fun q hq e=>by
   have:=List.any_eq_false.1 hd.1 _ (hin hr q hq)
   rw [e] at this
   simp at this
  refine ⟨fun q hq=>?_,fun q hq q' hq' e=>?_,fun p hp=>?_⟩
  ·rcases List.mem_append.1 hq with hq | hq
   ·obtain ⟨q0,h0,rfl⟩:=List.mem_map.1 hq
    exact ⟨(c5 q0 h0).1,(c5 q0 h0).2.1⟩
   ·exact i1 q hq
  ·rcases List.mem_append.1 hq with hq | hq
   ·obtain ⟨q0,h0,rfl⟩:=List.mem_map.1 hq
    rcases List.mem_append.1 hq' with hq' | hq'
    ·obtain ⟨q0',h0',rfl⟩:=List.mem_map.1 hq'
     simp only [Prod.mk.injEq,true_and] at e
     rw [c6 q0 h0 q0' h0' e]
    ·exact absurd (by rw [←e]) (hne q' hq')
   ·rcases List.mem_append.1 hq' with hq' | hq'
    ·obtain ⟨q0',h0',rfl⟩:=List.mem_map.1 hq'
     exact absurd (by rw [e]) (hne q hq)
    ·exact i2 q hq q' hq' e
  ·rcases List.mem_cons.1 hp with rfl | hp
   ·refine ⟨ag,vs,c1,c2,c3,c4,fun k y v hy hv=>?_⟩
    obtain ⟨d1,d2⟩:=c7 k y v hy hv
    refine ⟨d1,d2.imp id (Or.imp id fun ⟨aa,h1,h2⟩=>⟨aa,List.mem_append_left _ (List.mem_map.2 ⟨(aa,k),h1,rfl⟩),h2⟩)⟩
   ·obtain ⟨ag',vs',k1,k2,k3,k4,k5⟩:=i3 p hp
    refine ⟨ag',vs',k1,k2,k3,k4,fun k y v hy hv=>?_⟩
    obtain ⟨d1,d2⟩:=k5 k y v hy hv
    exact ⟨d1,d2.imp id (Or.imp id fun ⟨aa,h1,h2⟩=>⟨aa,List.mem_append_right _ h1,h2⟩)⟩

variable (hC:CfgOk P C)(hw:WOk w0 own0 cx own w)(hL:∀ z,SlotOk w cx own env (tvA a) z (L z))(hg:∀ gs b,g=some (gs,b)→env gs=[.bool b])
 (hod:o.dst=some d)(hd:d<a.tmps.size)(hn:∀ d sh,u.dst=some (d,sh)→sh.names d=false)(hp:pstep p env=some env')
include hC hw hL hg hod hd hn hp

theorem aCy {t len:Nat}{parts:Array (Nat×Operand)}(ho:o.op= .buildSlice t len parts)(hc:aCk C L g d t len parts.toList=some (u,p)):nM P cx own w a env o u env':=by
 unfold aCk at hc
 split at hc
 rotate_left
 ·cases hc
 rename_i ti hti
 split at hc
 rotate_left
 ·cases hc
 rename_i e hde
 split at hc
 rotate_left
 ·cases hc
 rename_i ei hei
 simp only at hc
 split at hc
 ·cases hc
 rename_i hk
 simp only [Bool.and_eq_true] at hk
 obtain ⟨⟨⟨hns,hparts⟩,hbig⟩,hpos⟩:=hk
 have hpos':0<ei.size:=Nat.le_of_ble_eq_true hpos
 have hbig':len*ei.size≤16777216:=Nat.le_of_ble_eq_true hbig
 have hpp:∀ q∈parts.toList,(bY L g q.2).length=ei.size∧q.1<len:=fun q hq=>by
  have:=List.all_eq_true.1 hparts q hq
  simp only [Bool.and_eq_true] at this
  exact ⟨Nat.eq_of_beq_eq_true this.1,Nat.le_of_ble_eq_true this.2⟩
 have hE:=hC e ei hei
 have hu:=(hC t ti hti).slice hde
 obtain ⟨z,hz1,hz2,_⟩:=hE.zeroV w
 have hzl:z.cells.toList.length=ei.size:=by rw [mV hz2];exact hE.len
 have hll:len≤len*ei.size:=Nat.le_mul_of_pos_right _ hpos'
 -- the row that it begins with, and the run
 have begin_:∀ (G:Nat→Nat→D→Value→Prop),(∀ (i j k:Nat) (x:D) (v:Value),ei.zero[k]? =some x→z.cells.toList[k]? =some v→G i j x v)→(∀ q∈parts.toList,NT a env ei.size len G q)→
   ∃ vs2:List Value,He ei.size len G (CI env (List.replicate len ei.zero) (parts.toList.map fun p=>(p.1,cC p.2))) vs2∧
    (execOp a.eval o).run P w= .ok (.value (.slice (some ⟨w.heap.size,0,none⟩) len len)) (w.alloc (.cells vs2.toArray e)):=by
  intro G hG hgood
  have h0:He ei.size len G (List.replicate len ei.zero) (madeCells z.cells (len*ei.size)).toList:=by
   refine ⟨by simp [size_madeCells],List.length_replicate ..,fun x hx=>by rw [List.eq_of_mem_replicate hx];exact hE.len,fun i x j dd hx hj=>?_⟩
   have hil:i<len:=by
    have:=(List.getElem?_eq_some_iff.1 hx).1
    simpa using this
   have hxe:x=ei.zero:=List.eq_of_mem_replicate (List.mem_of_getElem? hx)
   subst hxe
   have hjl:j<ei.size:=by rw [←hE.len];exact (List.getElem?_eq_some_iff.1 hj).1
   have hv:z.cells.toList[j]? =some z.cells.toList[j]:=List.getElem?_eq_getElem (by omega)
   refine ⟨z.cells.toList[j],?_,hG _ _ _ _ _ hj hv⟩
   have:=Kf z.cells.toList len ei.size hzl hpos' hil hjl
   rw [Array.toArray_toList] at this
   rw [Array.getElem?_toList]
   unfold madeCells
   rw [this,hv]
  obtain ⟨vs2,e1,e2⟩:=Hf (a:=a) (env:=env) hgood h0
  refine ⟨vs2,e2,?_⟩
  rw [Array.toArray_toList] at e1
  unfold execOp
  have hmap:(parts.map fun x=>match x with | (i,x)=>(i,a.eval x)).toList=parts.toList.map fun p=>(p.1,a.eval p.2):=by rw [Array.toList_map]
  have hlim:¬(len*ei.size>2^24):=by omega
  by_cases h00:len*ei.size=0
  ·have hm:madeCells z.cells (len*ei.size)=(Array.range (len*ei.size)).map (fun k=>(#[]:Array Value)[k % (#[]:Array Value).size]!):=by
    rw [h00];simp [madeCells]
   rw [hm] at e1
   simp only [ho,Instr.buildSlice,Sem.run_bind,run_underlying hu,hE.size w,Result.andThen_ok,if_neg hlim,if_pos h00,Sem.run_pure,hmap,e1,newRow,newObj]
   rfl
  ·simp only [ho,Instr.buildSlice,Sem.run_bind,run_underlying hu,hE.size w,Result.andThen_ok,if_neg hlim,if_neg h00,hz1,Sem.run_pure,hmap,newRow,newObj]
   unfold madeCells at e1
   rw [e1]
   rfl
 split at hc
 ·-- all below it is owned with it
  rename_i qs hqs
  have hinto:kV L g parts.toList=some qs:=by
   split at hqs
   ·exact hqs
   ·cases hqs
  split at hc
  rotate_left
  ·cases hc
  rename_i hnd2
  simp only [Bool.and_eq_true] at hnd2
  obtain ⟨hnd,hdist⟩:=hnd2
  simp only [Option.some.injEq,Prod.mk.injEq] at hc
  obtain ⟨rfl,rfl⟩:=hc
  simp only [pstep,Option.some.injEq] at hp
  subst hp
  obtain ⟨m1,m2,m3⟩:=DN hL hg hinto hdist
  have hmP:∀ q∈qs,ZL qs (fun _=>none) (q.1.h,q.1.i+1)=some fun p=>some (q.2::p):=fun q hq=>TK hnd (fun r hr r' hr' e=>by rw [vQ hnd hr hr' e]) hq
  obtain ⟨vs2,hh,hr⟩:=begin_ (fun i j x v=>Scal x v∨(x= .sl []∧v= .slice none 0 0)∨∃ aa,(aa,(i,j))∈qs∧aa.f.u=true∧OwnRep w cx own (aa.h,aa.i+1) true aa.f x v) (fun i j k x v hx hv=>by
    have h3:=(xI (mW hz2 hx hv) 0 0 w cx own).2
    have h2:=List.all_eq_true.1 hns x (List.mem_of_getElem? hx)
    cases x with
    | int k n=>exact .inl h3
    | bool b=>exact .inl h3
    | str s=>exact .inl h3
    | sl xs=>exact .inr (.inl h3)
    | fn _ _ _=>cases h2
    | bad=>cases h2) (fun q hq=>by
   obtain ⟨ag,us,k1,k2,k3,k4,k5⟩:=m3 q hq
   obtain ⟨h3,h4⟩:=hpp q hq
   exact ⟨h4,ag,us,k1,k2,by rw [k4];exact h3,by rw [k3];exact h3,k5⟩)
  obtain ⟨e1,e2,e3,e4⟩:=hh
  have hms:MsOk {aff:=qs.map (·.1),dst:=some (d,.v false [.o true ⟨ei.size,true⟩]) } (d,1) (ZL qs fun _=>none) (some ⟨(d,1),[],some 0⟩):={
   hit:=fun l F hl=>by
    rcases nO hl with ⟨q,hq,h1,_⟩ | ⟨_,h1⟩
    ·exact ⟨q.1,List.mem_map.2 ⟨q,hq,rfl⟩,h1⟩
    ·cases h1
   inj:=fun l l' F F' pp pp' q hl hl' hF hF'=>by
    rcases nO hl with ⟨q1,hq1,h1,h2⟩ | ⟨_,h1⟩
    ·rcases nO hl' with ⟨q1',hq1',h1',h2'⟩ | ⟨_,h1'⟩
     ·rw [h2] at hF
      rw [h2'] at hF'
      simp only [Option.some.injEq] at hF hF'
      rw [←hF'] at hF
      simp only [List.cons.injEq] at hF
      have:=m2 q1 hq1 q1' hq1' hF.1
      subst this
      exact ⟨h1.trans h1'.symm,hF.2⟩
     ·cases h1'
    ·cases h1
   tgt:= .inl (Nat.beq_refl _)
   noal:=fun y hy d' j m f=>by
    obtain ⟨q,hq,rfl⟩:=List.mem_map.1 hy
    rw [(m1 q hq).1];simp
   nb:=fun k hk=>by
    simp only [Option.some.injEq] at hk
    subst hk
    refine ⟨rfl,fun l F pp hl hF=>?_⟩
    rcases nO hl with ⟨q,_,_,h2⟩ | ⟨_,h1⟩
    ·rw [h2] at hF
     simp at hF
    ·cases h1 }
  refine ⟨_,aU own (dG {aff:=qs.map (·.1),dst:=some (d,.v false [.o true ⟨ei.size,true⟩]) } (d,1) (ZL qs fun _=>none)) w.heap.size (some ⟨(d,1),[],some 0⟩),_,hr,?_⟩
  rw [hod]
  have hheap:=HeapOk.alloc own w {aff:=qs.map (·.1),dst:=some (d,.v false [.o true ⟨ei.size,true⟩]) } (.cells vs2.toArray e)
  refine Gs (nb:=some ⟨(d,1),[],some 0⟩) (gb:=fun _=>False) hw hheap hnd (.inl ⟨rfl,fun k hk=>by show _<(w.heap.push _).size;simp⟩) (fun g i hgg hi=>?_) hms (fun y hy=>?_)
   (fun s hs=>cY _ _ _ _ (eB hs)) (fun s hs=>by rw [aQ a d _ hd,if_neg (rR hs)]) (by simp [Act.put]) rfl (fun st af=>⟨fun p hp=>by simp at hp,fun d' sh' he=>?_⟩)
  ·rcases hgg with h | h
   ·exact h.elim
   ·have:=(hw.dom g i hi).1
    omega
  ·obtain ⟨q,hq,rfl⟩:=List.mem_map.1 hy
   exact ⟨(m1 q hq).1,.inl (m1 q hq).2⟩
  ·simp only [Option.some.injEq,Prod.mk.injEq] at he
   obtain ⟨rfl,rfl⟩:=he
   have hxl:=e2
   generalize CI env (List.replicate len ei.zero) (parts.toList.map fun p=>(p.1,cC p.2))=xs at *
   subst hxl
   refine jM d true (uu:=true) (xs:=xs) (sz:=ei.size) (cap:=xs.length) (by rw [aQ a d _ hd,if_pos rfl]) (aI _ _ _) (heap_alloc_new w _) (by simp [aU]) (Nat.le_refl _) (by
     have:16777216≤maxLen:=by decide
     omega) (by simp [e1]) (fun o _=>by simp) hpos' e3 (fun i x j dd hx hj=>?_)
   obtain ⟨v,hv,hG⟩:=e4 i x j dd hx hj
   refine ⟨v,by rw [List.getElem?_toArray];exact hv,?_⟩
   rcases hG with hsc | ⟨hd0,hv0⟩ | ⟨aa,haa,hau,hor⟩
   ·exact InRep.scal hsc
   ·rw [hd0,hv0];exact InRep.nil _ _ _
   ·exact InRep.moved (T:=(d,1)) (gi:=w.heap.size) (nb:=some ⟨(d,1),[],some 0⟩) (q:=[(i,j)]) hw hheap (hmP _ haa) (fun r=>by simp) (fun gg ii hgg hll _=>⟨fun e=>e,fun e=>by
     have:=(hw.dom gg ii hgg).1
     omega⟩) (OwnRep.inr hau hor)
 split at hc
 ·-- borrowed
  split at hc
  ·rename_i hfirst
   simp only [bS,Option.some.injEq,Prod.mk.injEq] at hc
   obtain ⟨rfl,rfl⟩:=hc
   simp only [pstep,Option.some.injEq] at hp
   subst hp
   have hN:∀ g i,own g=some i→cx.N g:=fun g i hi=>(hw.dom g i hi).2
   obtain ⟨vs2,hh,hr⟩:=begin_ (fun _ _ x v=>Cell1 v∧Rep w (BS cx own) x v) (fun i j k x v hx hv=>⟨(xI (mW hz2 hx hv) 0 0 w cx own).1,Hd cx own hz2 hns hx hv _⟩) (fun q hq=>by
    have h1:=List.all_eq_true.1 hfirst q hq
    obtain ⟨h2,h3⟩:=hpp q hq
    unfold Cs at h1
    split at h1
    ·rename_i ag cs he
     obtain ⟨vs,s,k1,k2,k3,k4⟩:=opV hL hg he
     have hcs:bY L g q.2=cs:=by simp [bY,he]
     rw [hcs] at h2
     refine ⟨h3,ag,vs,k1,k2,by rw [k4.2.1,←k4.1];exact h2,by rw [←k4.1];exact h2,fun k y v hy hv=>?_⟩
     have hk:k<cs.length:=by rw [k4.1];exact (List.getElem?_eq_some_iff.1 hy).1
     have hcell:=k4.2.2 k _ y v (List.getElem?_eq_getElem hk) hy hv
     exact ⟨hcell.1,hcell.1,hcell.bs hN hw.s1 (List.all_eq_true.1 h1 _ (List.getElem_mem hk))⟩
    ·cases h1)
   obtain ⟨e1,e2,e3,e4⟩:=hh
   refine ⟨_,aU own (aX {dst:=some (d,.v false [.b]) }) w.heap.size none,_,hr,?_⟩
   rw [hod]
   refine fG (nb:=none) hw (HeapOk.alloc own w _ _) (fun g i h=>h.elim) rfl (fun a ha=>by simp at ha) (fun k hk=>by cases hk)
    (fun s hs=>cY _ _ _ _ (eB hs)) (fun s hs=>by rw [aQ a d _ hd,if_neg (rR hs)]) (by simp [Act.put]) rfl (fun st af=>⟨fun p hp=>by simp at hp,fun d' sh' he=>?_⟩)
   simp only [Option.some.injEq,Prod.mk.injEq] at he
   obtain ⟨rfl,rfl⟩:=he
   refine wJ hd ⟨⟨fun _=>by simp,fun _=>by simp⟩,?_⟩
   have hxl:=e2
   generalize CI env (List.replicate len ei.zero) (parts.toList.map fun p=>(p.1,cC p.2))=xs at *
   subst hxl
   refine Rep.sl xs w.heap.size 0 ei.size _ (fun i j=>(vs2[i*ei.size+j]?).getD undef) (Nat.le_refl _) e3 (fun i x j dd hx hj=>?_) (fun i x j dd hx hj=>?_) (fun i x j dd hx hj=>?_)
   ·obtain ⟨v,hv,_⟩:=e4 i x j dd hx hj
    rw [Nat.zero_add,bM (heap_alloc_new w _),List.getElem?_toArray,hv]
    rfl
   ·refine ⟨?_,.inr ((hw.n _).2 (.inl hw.kept.size))⟩
    rintro ⟨i',b',h9,_⟩
    simp [aU] at h9
   ·obtain ⟨v,hv,_,hG⟩:=e4 i x j dd hx hj
    rw [hv]
    exact st.bs hG
  ·cases hc
 ·split at hc
  ·rename_i aas hfz
   split at hc
   ·rename_i hnd
    simp only [Option.some.injEq,Prod.mk.injEq] at hc
    obtain ⟨rfl,rfl⟩:=hc
    simp only [pstep,Option.some.injEq] at hp
    subst hp
    obtain ⟨m1,m2⟩:=Bg hfz
    have hmv:∀ y∈aas,dL y∧y.to= .r:=fun y hy=>by
     obtain ⟨q,hq,asp,h1,h2⟩:=m2 y hy
     obtain ⟨_,_,_,_,_,_,h3,_⟩:=uT hL hg h1
     exact h3 y h2
    obtain ⟨vs2,hh,hr⟩:=begin_ (fun _ _=>Jo w cx own aas) (fun i j k x v hx hv=>⟨(xI (mW hz2 hx hv) 0 0 w cx own).1,.inl (Hd cx own hz2 hns hx hv _)⟩) (fun q hq=>by
     obtain ⟨asp,h1,h2⟩:=m1 q hq
     obtain ⟨ag,us,k1,k2,k3,k4,k5,k6⟩:=uT hL hg h1
     obtain ⟨h3,h4⟩:=hpp q hq
     exact ⟨h4,ag,us,k1,k2,by rw [k4];exact h3,by rw [k3];exact h3,fun k y v hy hv=>⟨(k6 k y v hy hv).1,(k6 k y v hy hv).mono h2⟩⟩)
    obtain ⟨e1,e2,e3,e4⟩:=hh
    refine ⟨_,aU own (aX {aff:=aas,dst:=some (d,.v false [.o (C.bm.any (Nat.beq d)) ⟨ei.size,false⟩]) }) w.heap.size (some ⟨(d,1),[],if (C.bm.any (Nat.beq d)) then some 0 else some (len*ei.size)⟩),_,hr,?_⟩
    rw [hod]
    refine fG (nb:=some ⟨(d,1),[],if (C.bm.any (Nat.beq d)) then some 0 else some (len*ei.size)⟩) hw (HeapOk.alloc own w _ _) (fun g i h=>h.elim) hnd (fun y hy=> .inl (hmv y hy).1) (fun k hk=>?_)
     (fun s hs=>cY _ _ _ _ (eB hs)) (fun s hs=>by rw [aQ a d _ hd,if_neg (rR hs)]) (by simp [Act.put]) rfl (fun st af=>⟨fun p hp=>by simp at hp,fun d' sh' he=>?_⟩)
    ·simp only [Option.some.injEq] at hk
     subst hk
     exact ⟨by show _<(w.heap.push _).size;simp,Nat.beq_refl _,.inr (fun y hy d j m f=>by rw [(hmv y hy).2];simp)⟩
    ·simp only [Option.some.injEq,Prod.mk.injEq] at he
     obtain ⟨rfl,rfl⟩:=he
     have hxl:=e2
     generalize CI env (List.replicate len ei.zero) (parts.toList.map fun p=>(p.1,cC p.2))=xs at *
     subst hxl
     refine jM d _ (xs:=xs) (sz:=ei.size) (cap:=xs.length) (by rw [aQ a d _ hd,if_pos rfl]) (aI _ _ _) (heap_alloc_new w _) (by simp [aU]) (Nat.le_refl _) (by
       have:16777216≤maxLen:=by decide
       omega) (by simp [e1]) (fun o _=>by simp) hpos' e3 (fun i x j dd hx hj=>?_)
     obtain ⟨v,hv,hG⟩:=e4 i x j dd hx hj
     exact ⟨v,by rw [List.getElem?_toArray];exact hv,hG.ok st af (fun y hy=>hy)⟩
   ·cases hc
  ·cases hc

end

end
section

section
variable {P:Program}{C:Cfg}{w0:World}{own0:Own}{cx:Cx}{own own':Own}{w w':World}{a:Act}{env env':Env}{L:Look}{g:Gd}{o:Oper}{u:Up}{p:PS}{d:Nat}

theorem CM (P:Program)(w:World){sz n gg off cap:Nat}{news:List Value}(hl:news.length=n*sz)(hc:∀ (k:Nat) (v:Value),news[k]? =some v→w.cell? ⟨gg,off+k,none⟩=some v):
  (Builtin.firstCells sz n (.slice (some ⟨gg,off,none⟩) n cap)).run P w= .ok news.toArray w:=
 run_firstCells_some (P:=P) w sz n ⟨gg,off,none⟩ n cap news hl (fun j v hv=>by rw [Addr.add_lit];exact hc j v hv)

structure Row (P:Program) (w:World) (G:Nat→Nat→D→Value→Prop) (sz:Nat) (ys:List (List D)) (v:Value) (news:List Value):Prop where
 val:∃ A cap,v= .slice A ys.length cap∧ys.length≤cap∧(A=none→ys=[])
 len:news.length=ys.length*sz
 run:∀ w':World,w'.heap=w.heap→(Builtin.firstCells sz ys.length v).run P w'= .ok news.toArray w'
 get:∀ (i:Nat) (x:List D) (j:Nat) (d:D),ys[i]? =some x→x[j]? =some d→∃ u,news[i*sz+j]? =some u∧Cell1 u∧G i j d u
 one:∀ u∈news,Cell1 u

theorem Hg {G:Nat→Nat→D→Value→Prop}{sz:Nat}(hpos:0<sz){ys:List (List D)}(hys:∀ y∈ys,y.length=sz){v:Value}{gg off sz' cap:Nat}{vs:Nat→Nat→Value}(hv:v= .slice (some ⟨gg,off,none⟩) ys.length cap)(hcap:ys.length≤cap)(hsz:∀ x∈ys,x.length=sz')
  (hc:∀ (i:Nat) (x:List D) (j:Nat) (d:D),ys[i]? =some x→x[j]? =some d→w.cell? ⟨gg,off+i*sz'+j,none⟩=some (vs i j))
  (h1:∀ (i:Nat) (x:List D) (j:Nat) (d:D),ys[i]? =some x→x[j]? =some d→Cell1 (vs i j)∧G i j d (vs i j)):∃ news,Row P w G sz ys v news:=by
 have hl:((List.range (ys.length*sz)).map fun k=>vs (k / sz) (k % sz)).length=ys.length*sz:=by simp
 have hat:∀ k,k<ys.length*sz→∃ x d,ys[k / sz]? =some x∧x[k % sz]? =some d∧x.length=sz:=by
  intro k hk
  have hi:k / sz<ys.length:=Nat.div_lt_of_lt_mul (by rw [Nat.mul_comm];exact hk)
  have hx:ys[k / sz]? =some ys[k / sz]:=List.getElem?_eq_getElem hi
  have hxl:=hys _ (List.mem_of_getElem? hx)
  have hj:k % sz<ys[k / sz].length:=by rw [hxl];exact Nat.mod_lt _ hpos
  exact ⟨_,_,hx,List.getElem?_eq_getElem hj,hxl⟩
 have hget:∀ (k:Nat) (u:Value),((List.range (ys.length*sz)).map fun k=>vs (k / sz) (k % sz))[k]? =some u→k<ys.length*sz∧u=vs (k / sz) (k % sz):=by
  intro k u hu
  rw [List.getElem?_map] at hu
  by_cases hk:k<ys.length*sz
  ·rw [List.getElem?_range hk] at hu
   simp only [Option.map_some,Option.some.injEq] at hu
   exact ⟨hk,hu.symm⟩
  ·rw [List.getElem?_eq_none (by simpa using hk)] at hu;cases hu
 refine ⟨(List.range (ys.length*sz)).map fun k=>vs (k / sz) (k % sz),⟨_,cap,hv,hcap,fun h=>by cases h⟩,hl,fun w' hw'=>?_,fun i x j dd hx hj=>?_,fun u hu=>?_⟩
 ·rw [hv]
  refine CM P w' hl (fun k u hu=>?_)
  obtain ⟨hk,rfl⟩:=hget k u hu
  obtain ⟨x,dd,h2,h3,h4⟩:=hat k hk
  have hs:sz'=sz:=by rw [←hsz x (List.mem_of_getElem? h2)];exact h4
  subst hs
  have:=hc _ x _ dd h2 h3
  rw [show off+k / sz'*sz'+k % sz'=off+k from by rw [Nat.add_assoc,Nat.div_add_mod']] at this
  unfold World.cell? at this ⊢
  rw [hw']
  exact this
 ·have hj':j<sz:=by rw [←hys x (List.mem_of_getElem? hx)];exact (List.getElem?_eq_some_iff.1 hj).1
  have hi:i<ys.length:=(List.getElem?_eq_some_iff.1 hx).1
  have hlt:i*sz+j<ys.length*sz:=by
   have:i*sz+sz≤ys.length*sz:=by rw [←Nat.succ_mul];exact Nat.mul_le_mul_right _ hi
   omega
  refine ⟨vs i j,?_,h1 i x j dd hx hj⟩
  rw [List.getElem?_map,List.getElem?_range hlt,Option.map_some]
  have e1:(i*sz+j) / sz=i:=by rw [Nat.mul_comm,Nat.mul_add_div hpos,Nat.div_eq_of_lt hj',Nat.add_zero]
  have e2:(i*sz+j) % sz=j:=by rw [Nat.mul_comm,Nat.mul_add_mod,Nat.mod_eq_of_lt hj']
  rw [e1,e2]
 ·obtain ⟨k,hk⟩:=List.getElem?_of_mem hu
  obtain ⟨hlt,rfl⟩:=hget k u hk
  obtain ⟨x,dd,h2,h3,h4⟩:=hat k hlt
  exact (h1 _ x _ dd h2 h3).1

theorem Gt {G:Nat→Nat→D→Value→Prop}{sz:Nat}(A:Option Addr)(cap:Nat):Row P w G sz [] (.slice A 0 cap) []:=by
 refine ⟨⟨A,cap,rfl,Nat.zero_le _,fun _=>rfl⟩,by simp,fun w' _=>?_,fun i x j d h=>by simp at h,fun u hu=>by simp at hu⟩
 cases A with
 | none=>simp [Builtin.firstCells]
 | some A=>simp [Builtin.firstCells,loadCells,loadCellsFrom]

theorem DO {t t2 ty e e2:TypeId}{i:TypeInfo}(ht:P.underlying t=some (.slice e))(ht2:P.underlying t2=some (.slice e2))(hi:P.info? e=some i){gg sLen sCap:Nat}{cur:Array Value}{T:TypeId}{fr:Nat×Nat}(hg:w.heap[gg]? =some (.cells cur T fr))
  {A:Option Addr}{n cap:Nat}{news:List Value}(hn:news.length=n*i.size)(hf:(Builtin.firstCells i.size n (.slice A n cap)).run P w= .ok news.toArray w)(h1:∀ u∈news,Cell1 u)(hroom:sLen+n≤sCap)
  (hfr:∀ o,o<sCap*i.size→(fr.1≤o&&o<fr.2)=false)(hfit:sCap*i.size≤cur.size):
  (Builtin.append_ #[t,t2] ty #[.slice (some ⟨gg,0,none⟩) sLen sCap,.slice A n cap]).run P w=
   .ok (.slice (some ⟨gg,0,none⟩) (sLen+n) sCap) (w.setRow gg (cur.toList.take (sLen*i.size)++news++cur.toList.drop (sLen*i.size+news.length)).toArray):=by
 have hm:sLen*i.size+n*i.size≤sCap*i.size:=by rw [←Nat.add_mul];exact Nat.mul_le_mul_right _ hroom
 have hst:=nN P gg (sLen*i.size) T fr news 0 cur w hg (fun k h2 h3=>hfr k (by omega)) (by omega) (fun v hv=>(h1 v hv).one)
 simp only [Nat.add_zero] at hst
 simp [Builtin.append_,run_underlying ht,run_underlying ht2,sizeOf,typeInfo,hi,Builtin.lenOf,hroom,hf,Addr.add_lit,hst]

theorem DP {t t2 ty e e2:TypeId}{i:TypeInfo}(ht:P.underlying t=some (.slice e))(ht2:P.underlying t2=some (.slice e2))(hi:P.info? e=some i)
  {A:Option Addr}{cap:Nat}(hf:(Builtin.firstCells i.size 0 (.slice A 0 cap)).run P w= .ok #[] w):
  (Builtin.append_ #[t,t2] ty #[.slice none 0 0,.slice A 0 cap]).run P w= .ok (.slice none 0 0) w:=by
 simp [Builtin.append_,run_underlying ht,run_underlying ht2,sizeOf,typeInfo,hi,Builtin.lenOf,hf]

theorem DQ {t t2 ty e e2:TypeId}{i:TypeInfo}{z:Value}(ht:P.underlying t=some (.slice e))(ht2:P.underlying t2=some (.slice e2))(hi:P.info? e=some i)(hz:i.zero=some z){B:Option Addr}{sLen sCap:Nat}{olds:List Value}
  {A:Option Addr}{n cap:Nat}{news:List Value}(hfo:(Builtin.firstCells i.size sLen (.slice B sLen sCap)).run P w.drew= .ok olds.toArray w.drew)(hf:(Builtin.firstCells i.size n (.slice A n cap)).run P w.drew= .ok news.toArray w.drew)(hg:sCap<sLen+n)
  (h63:((sLen+n:Nat):Int)≤9223372036854775807)(hfit:Builtin.nextslicecap (sLen+n) sCap*i.bytes≤281474976710656):
  (Builtin.append_ #[t,t2] ty #[.slice B sLen sCap,.slice A n cap]).run P w=
   .ok (.slice (some ⟨w.heap.size,0,none⟩) (sLen+n) (grownCap w (sLen+n) sCap e))
    (w.drew.alloc (.cells (olds.toArray++news.toArray++Builtin.zeroCells z.cells (grownCap w (sLen+n) sCap e - (sLen+n))) e)):=by
 have hn:¬(sLen+n≤sCap):=by omega
 have h63':¬(9223372036854775807<((sLen:Int)+(n:Int))):=by omega
 have h48':¬(281474976710656<Builtin.nextslicecap (sLen+n) sCap*i.bytes):=by omega
 simp [Builtin.append_,run_underlying ht,run_underlying ht2,sizeOf,typeInfo,zeroValue,hi,hz,Builtin.lenOf,hn,h63',h48',Question.forced,hf,hfo,newRow,grownCap]
 congr 2
 apply Array.ext'
 simp

theorem HeapOk.drew (own:Own)(w:World)(u:Up)(o:Obj):HeapOk own w (w.drew.alloc o) u (fun _=>False):=
 ⟨rfl,rfl,rfl,by show _≤(w.heap.push o).size;simp,fun g hg _=>heap_alloc_old w.drew o g hg,fun _ h=>h.elim,fun _ _ h=>h.elim,fun _ _ _ h=>h.elim⟩

theorem HeapOk.bytes (own:Own)(w:World)(u:Up)(e:TypeId)(s:ByteArray):HeapOk own w (Lib.bytesWorld w e s) u (fun _=>False):=by
 refine ⟨?_,?_,?_,by rw [Lib.bytesWorld_size];omega,fun g hg _=>Lib.bytesWorld_at_old w e s g hg,fun _ h=>h.elim,fun _ _ h=>h.elim,fun _ _ _ h=>h.elim⟩<;>
 ·unfold Lib.bytesWorld World.freeze
  rw [if_neg (by decide)]
  rfl

variable (hC:CfgOk P C)(hw:WOk w0 own0 cx own w)(hL:∀ z,SlotOk w cx own env (tvA a) z (L z))(hg:∀ gs b,g=some (gs,b)→env gs=[.bool b])
 (hod:o.dst=some d)(hd:d<a.tmps.size)(hn:∀ d sh,u.dst=some (d,sh)→sh.names d=false)(hp:pstep p env=some env')
include hC hw hL hg hod hd hn hp

theorem aCz {src dst:TypeId}{x:Operand}{ta tb:TI}{e:Nat}(ho:o.op= .convert src dst x)(hta:C.ty src=some ta)(htb:C.ty dst=some tb)(hda:ta.desc= .str)(hdb:tb.desc= .slice e)(hby:C.isByte e=true)(hx:scal L g x=true)
  (hu:u={dst:=some (d,.v false [.o true ⟨1,false⟩]) })(hpp:p= .s2b d (cC x)):nM P cx own w a env o u env':=by
 subst hpp
 subst hu
 obtain ⟨dx,vx,h1,h2,h3⟩:=EJ hL hg hx
 simp only [pstep,h2] at hp
 split at hp
 ·rename_i s he
  simp only [List.cons.injEq,and_true] at he
  subst he
  split at hp
  ·rename_i hlim
   simp only [Option.some.injEq] at hp
   subst hp
   have hv:=h3.str'
   have hr0:=Lib.run_convert_string_bytes (P:=P) w src dst e s ((hC src ta hta).str hda) ((hC dst tb htb).slice hdb) (KU hC hby)
   have hr:(execOp a.eval o).run P w= .ok (.value (.slice (some ⟨w.heap.size,0,none⟩) s.size (grownCap w s.size 0 e))) (Lib.bytesWorld w e s):=by
    unfold execOp
    simp only [ho,h1,hv,Sem.run_bind,hr0,Result.andThen_ok,Sem.run_pure]
   have hml:s.size≤maxLen:=by
    have:lim≤maxLen:=by decide
    omega
   have hge:=grownCap_ge w s.size 0 e
   refine ⟨_,aU own (aX {dst:=some (d,.v false [.o true ⟨1,false⟩]) }) w.heap.size (some ⟨(d,1),[],some 0⟩),_,hr,?_⟩
   rw [hod]
   refine fG (nb:=some ⟨(d,1),[],some 0⟩) hw (HeapOk.bytes own w _ e s) (fun g i h=>h.elim) rfl (fun a ha=>by simp at ha) (fun k hk=>?_)
    (fun s hs=>cY _ _ _ _ (eB hs)) (fun s hs=>by rw [aQ a d _ hd,if_neg (rR hs)]) (by simp [Act.put]) rfl (fun st af=>⟨fun p hp=>by simp at hp,fun d' sh' he=>?_⟩)
   ·simp only [Option.some.injEq] at hk
    subst hk
    exact ⟨by rw [Lib.bytesWorld_size];omega,Nat.beq_refl _,.inr (fun a ha=>by simp at ha)⟩
   ·simp only [Option.some.injEq,Prod.mk.injEq] at he
    obtain ⟨rfl,rfl⟩:=he
    have hsz:s.data.size=s.size:=rfl
    have hcs:(Lib.bytesCells w e s).size=grownCap w s.size 0 e:=by
     simp [Lib.bytesCells,hsz];omega
    have hxl:(CH s).length=s.size:=by simp [CH,hsz]
    refine jM d true (xs:=CH s) (sz:=1) (cap:=grownCap w s.size 0 e) (by rw [aQ a d _ hd,if_pos rfl,hxl]) (aI _ _ _) (Lib.bytesWorld_at_new w e s) (by simp [aU]) (by rw [hxl];exact hge) (grownCap_le_maxLen w _ 0 e hml)
     (by rw [hcs,Nat.mul_one];exact Nat.le_refl _) (fun o ho=>by rw [hcs];simp;intro h;omega) (by decide) (fun x hx=>?_) (fun i x j dd hx hj=>?_)
    ·unfold CH at hx
     obtain ⟨b,_,rfl⟩:=List.mem_map.1 hx
     rfl
    ·unfold CH at hx
     rw [List.getElem?_map] at hx
     cases hb:s.data.toList[i]? with
     | none=>rw [hb] at hx;cases hx
     | some b=>
      rw [hb] at hx
      simp only [Option.map_some,Option.some.injEq] at hx
      subst hx
      cases j with
      | succ j=>simp at hj
      | zero=>
       simp only [List.getElem?_cons_zero,Option.some.injEq] at hj
       subst hj
       refine ⟨.int .u8 b.toNat,?_,.scal (.int _ _)⟩
       have hi:i<s.data.size:=by
        have:=(List.getElem?_eq_some_iff.1 hb).1
        simpa using this
       have hb':s.data[i]? =some b:=by rw [←Array.getElem?_toList];exact hb
       simp only [Nat.mul_one,Nat.add_zero,Lib.bytesCells]
       rw [Array.getElem?_append_left (by simpa using hi),Array.getElem?_map,hb']
       rfl
  ·cases hp
 ·cases hp

end

end
section

section
variable {P:Program}{C:Cfg}{w0:World}{own0:Own}{cx:Cx}{own own':Own}{w w':World}{a:Act}{env env':Env}{L:Look}{g:Gd}{o:Oper}{u:Up}{p:PS}{d:Nat}

theorem TM {xs ys:List (List D)}{sz:Nat}(hx:∀ x∈xs,x.length=sz){G:D→Value→Prop}{cur:Array Value}
  (h1:∀ (i:Nat) (x:List D) (j:Nat) (d:D),xs[i]? =some x→x[j]? =some d→∃ v,cur[i*sz+j]? =some v∧G d v)
  (h2:∀ (i:Nat) (x:List D) (j:Nat) (d:D),ys[i]? =some x→x[j]? =some d→∃ v,cur[(xs.length+i)*sz+j]? =some v∧G d v):
  ∀ (i:Nat) (x:List D) (j:Nat) (d:D),(xs++ys)[i]? =some x→x[j]? =some d→∃ v,cur[i*sz+j]? =some v∧G d v:=by
 intro i x j dd hi hj
 by_cases h:i<xs.length
 ·rw [List.getElem?_append_left h] at hi
  exact h1 i x j dd hi hj
 ·rw [List.getElem?_append_right (by omega)] at hi
  have:=h2 _ x j dd hi hj
  rwa [show xs.length+(i - xs.length)=i from by omega] at this

variable (hC:CfgOk P C)(hw:WOk w0 own0 cx own w)(hL:∀ z,SlotOk w cx own env (tvA a) z (L z))(hg:∀ gs b,g=some (gs,b)→env gs=[.bool b])
 (hod:o.dst=some d)(hd:d<a.tmps.size)
include hC hw hod hd

theorem NU {t t2 e e2:TypeId}{ei:TI}{c:Call}(ho:o.op= .call c)(hb:c.callee= .builtin .append){x y:Operand}(hargs:c.args=#[x,y])(htys:c.argTypes=#[t,t2])(ht:P.underlying t=some (.slice e))(ht2:P.underlying t2=some (.slice e2))(hei:C.ty e=some ei)
  {m:Bool}{aas:List Aff}(hu:u={aff:=aas,dst:=some (d,.v false [.o m ⟨ei.size,false⟩]) })(hnd:bE aas=true)(has:∀ z∈aas,dL z∧∀ d j m f,z.to≠ .al d j m f)
  {xs ys:List (List D)}{vx vy:Value}{olds news:List Value}(hvx:a.eval x=vx)(hvy:a.eval y=vy){B:Option Addr}{sCap:Nat}(hB:vx= .slice B xs.length sCap)(hpos:0<ei.size)
  (hrx:Row P w (fun _ _=>Rep w (RS cx own)) ei.size xs vx olds)(hry:Row P w (fun _ _=>Rep w (RS cx own)) ei.size ys vy news)(hlim:xs.length+ys.length≤lim)(hsz:∀ x∈xs++ys,x.length=ei.size)(hgr:sCap<xs.length+ys.length):
  nM P cx own w a env o u (put env d [.sl (xs++ys)]):=by
 have hE:=hC e ei hei
 obtain ⟨ie,z,hi1,hi2,hi3,_⟩:=hE.zero
 obtain ⟨ie',hj1,hj2,hj3,hj4⟩:=hE.info
 have hie:ie'=ie:=by rw [hi1] at hj1;exact (Option.some.inj hj1).symm
 subst hie
 obtain ⟨A,cap,hv2,_,_⟩:=hry.val
 have hlim':xs.length+ys.length≤1073741824:=hlim
 have hbb:(xs.length+ys.length)*ie'.bytes≤140737488355328:=by
  have e1:ie'.bytes≤100000:=by omega
  have:=Nat.mul_le_mul hlim' e1
  omega
 have hml:xs.length+ys.length≤maxLen:=by
  have:lim≤maxLen:=by decide
  omega
 have hfo:=hrx.run w.drew rfl
 have hf:=hry.run w.drew rfl
 rw [hB,←hj2] at hfo
 rw [hv2,←hj2] at hf
 have hrun:=DQ (P:=P) (w:=w) (ty:=o.type) ht ht2 hi1 hi2 hfo hf hgr (by omega) (growslice_fits hgr hbb)
 have hr:(execOp a.eval o).run P w= .ok (.value (.slice (some ⟨w.heap.size,0,none⟩) (xs.length+ys.length) (grownCap w (xs.length+ys.length) sCap e)))
   (w.drew.alloc (.cells (olds.toArray++news.toArray++Builtin.zeroCells z.cells (grownCap w (xs.length+ys.length) sCap e - (xs.length+ys.length))) e)):=by
  obtain ⟨k9,he9⟩:=fK (P:=P) (w:=w) (a:=a) ho hb
  rw [he9]
  simp only [builtin,hargs,htys,List.map_toArray,List.map_cons,List.map_nil,hvx,hvy,hB,hv2,Sem.run_bind,hrun,Result.andThen_ok,Sem.run_pure]
 subst hu
 have hlen:(xs++ys).length=xs.length+ys.length:=List.length_append
 refine ⟨_,aU own (aX {aff:=aas,dst:=some (d,.v false [.o m ⟨ei.size,false⟩]) }) w.heap.size (some ⟨(d,1),[],if m then some 0 else some ((xs.length+ys.length)*ei.size)⟩),_,hr,?_⟩
 rw [hod]
 refine fG (nb:=some ⟨(d,1),[],if m then some 0 else some ((xs.length+ys.length)*ei.size)⟩) hw (HeapOk.drew own w _ _) (fun g i h=>h.elim) hnd (fun y hy=> .inl (has y hy).1) (fun k hk=>?_)
  (fun s hs=>cY _ _ _ _ (eB hs)) (fun s hs=>by rw [aQ a d _ hd,if_neg (rR hs)]) (by simp [Act.put]) rfl (fun st af=>⟨fun p hp=>by simp at hp,fun d' sh' he=>?_⟩)
 ·simp only [Option.some.injEq] at hk
  subst hk
  exact ⟨by show _<(w.heap.push _).size;simp,Nat.beq_refl _,.inr (fun y hy=>(has y hy).2)⟩
 ·simp only [Option.some.injEq,Prod.mk.injEq] at he
  obtain ⟨rfl,rfl⟩:=he
  have hge:=grownCap_ge w (xs.length+ys.length) sCap e
  have hzs:z.cells.size=ei.size:=by
   have:=mV hi3
   rw [hE.len] at this
   simpa using this
  have hcs:(olds.toArray++news.toArray++Builtin.zeroCells z.cells (grownCap w (xs.length+ys.length) sCap e - (xs.length+ys.length))).size=grownCap w (xs.length+ys.length) sCap e*ei.size:=by
   simp only [Array.size_append,List.size_toArray,size_zeroCells,hzs,hrx.len,hry.len,←Nat.add_mul]
   congr 1
   omega
  refine jM d m (xs:=xs++ys) (sz:=ei.size) (cap:=grownCap w (xs.length+ys.length) sCap e) (by rw [aQ a d _ hd,if_pos rfl,hlen]) (aI _ _ _) (gg:=w.heap.size) (heap_alloc_new w.drew _) (by rw [hlen];simp [aU]) (by rw [hlen];exact hge) (grownCap_le_maxLen w _ sCap e hml)
   (by rw [hcs];exact Nat.le_refl _) (fun o _=>by simp) hpos hsz (TM (fun x hx=>hsz x (List.mem_append_left _ hx)) (fun i x j dd hx hj=>?_) (fun i x j dd hx hj=>?_))
  ·obtain ⟨v,hv,_,hG⟩:=hrx.get i x j dd hx hj
   refine ⟨v,?_,st.rs hG⟩
   have hlt:=(List.getElem?_eq_some_iff.1 hv).1
   rw [Array.append_assoc,Array.getElem?_append_left (by simpa using hlt),List.getElem?_toArray]
   exact hv
  ·obtain ⟨v,hv,_,hG⟩:=hry.get i x j dd hx hj
   refine ⟨v,?_,st.rs hG⟩
   have hlt:=(List.getElem?_eq_some_iff.1 hv).1
   have hol:=hrx.len
   rw [Array.append_assoc,Array.getElem?_append_right (by rw [List.size_toArray,hol,Nat.add_mul];omega),Array.getElem?_append_left (by rw [List.size_toArray,List.size_toArray,hol,Nat.add_mul];omega),List.getElem?_toArray]
   rw [←hv]
   congr 1
   rw [List.size_toArray,hol,Nat.add_mul]
   omega

theorem Wr {t t2 e e2:TypeId}{ei:TI}{c:Call}(ho:o.op= .call c)(hb:c.callee= .builtin .append){x y:Operand}(hargs:c.args=#[x,y])(htys:c.argTypes=#[t,t2])(ht:P.underlying t=some (.slice e))(ht2:P.underlying t2=some (.slice e2))(hei:C.ty e=some ei)
  {m:Bool}{h i:Nat}{ay:List Aff}(hu:u={aff:=⟨h,i,m,⟨ei.size,false⟩,if m then .x else .b,if m then .x else .b⟩::ay,dst:=some (d,.v false [.o m ⟨ei.size,false⟩]) })(hnd:bE u.aff=true)(has:∀ z∈u.aff,dL z∧∀ d j m f,z.to≠ .al d j m f)(hhd:h≠d)
  {xs ys:List (List D)}{vy:Value}{news:List Value}{gg sCap:Nat}{cur:Array Value}{T:TypeId}{fr:Nat×Nat}{vs:Nat→Nat→Value}(hvx:a.eval x= .slice (some ⟨gg,0,none⟩) xs.length sCap)(hvy:a.eval y=vy)
  (e1:w.heap[gg]? =some (.cells cur T fr))(e2':own gg=some ⟨(h,i+1),[],if m then some 0 else some (xs.length*ei.size)⟩)(e4:sCap≤maxLen)(e5:sCap*ei.size≤cur.size)(e6:∀ o,(o<sCap*ei.size∨1<ei.size)→(fr.1≤o&&o<fr.2)=false)(hpos:0<ei.size)
  (e9:∀ (i:Nat) (x:List D) (j:Nat) (d:D),xs[i]? =some x→x[j]? =some d→cur[i*ei.size+j]? =some (vs i j))(e10:∀ (i:Nat) (x:List D) (j:Nat) (d:D),xs[i]? =some x→x[j]? =some d→Rep w (RS cx own) d (vs i j))
  (hry:Row P w (fun _ _=>Rep w (RS cx own)) ei.size ys vy news)(hsz:∀ x∈xs++ys,x.length=ei.size)(hroom:xs.length+ys.length≤sCap):
  nM P cx own w a env o u (put env d [.sl (xs++ys)]):=by
 have hE:=hC e ei hei
 obtain ⟨ie,hj1,hj2,hj3,hj4⟩:=hE.info
 obtain ⟨A,cap,hv2,_,_⟩:=hry.val
 have hf:=hry.run w rfl
 rw [hv2,←hj2] at hf
 have hnl:news.length=ys.length*ie.size:=by rw [hj2];exact hry.len
 have hrun:=DO (P:=P) (w:=w) (ty:=o.type) ht ht2 hj1 e1 hnl hf hry.one hroom (by rw [hj2];exact fun o ho=>e6 o (.inl ho)) (by rw [hj2];exact e5)
 rw [hj2] at hrun
 have hr:(execOp a.eval o).run P w= .ok (.value (.slice (some ⟨gg,0,none⟩) (xs.length+ys.length) sCap)) (w.setRow gg (cur.toList.take (xs.length*ei.size)++news++cur.toList.drop (xs.length*ei.size+news.length)).toArray):=by
  obtain ⟨k9,he9⟩:=fK (P:=P) (w:=w) (a:=a) ho hb
  rw [he9]
  simp only [builtin,hargs,htys,List.map_toArray,List.map_cons,List.map_nil,hvx,hvy,hv2,Sem.run_bind,hrun,Result.andThen_ok,Sem.run_pure]
 have hlen:(xs++ys).length=xs.length+ys.length:=List.length_append
 have hm1:xs.length*ei.size+ys.length*ei.size≤sCap*ei.size:=by rw [←Nat.add_mul];exact Nat.mul_le_mul_right _ hroom
 have hnl2:=hry.len
 have b3:xs.length*ei.size+news.length≤cur.toList.length:=by simp;omega
 have hsz2:(cur.toList.take (xs.length*ei.size)++news++cur.toList.drop (xs.length*ei.size+news.length)).toArray.size=cur.size:=by
  have:=bQ b3
  simpa using this
 have hcur:∀ j,(cur.toList.take (xs.length*ei.size)++news++cur.toList.drop (xs.length*ei.size+news.length)).toArray[j]? =if j<xs.length*ei.size then cur[j]? else if j<xs.length*ei.size+news.length then news[j - xs.length*ei.size]? else cur[j]? :=by
  intro j
  rw [List.getElem?_toArray,dA b3]
  simp
 have hA:u.A (h,i+1):= .inr (.inr ⟨i,rfl,.inl (by rw [hu];simp [Up.find])⟩)
 have hheap:=setRow_heap w gg cur (cur.toList.take (xs.length*ei.size)++news++cur.toList.drop (xs.length*ei.size+news.length)).toArray T fr e1
 have hh:HeapOk own w (w.setRow gg (cur.toList.take (xs.length*ei.size)++news++cur.toList.drop (xs.length*ei.size+news.length)).toArray) u (fun g=>g=gg):=by
  refine ⟨rfl,rfl,rfl,by simp,fun g _ hne=>setRow_other w gg g _ hne,?_,?_,?_⟩
  ·rintro g rfl;exact ⟨_,e2',hA⟩
  ·rintro g o' rfl hnc
   rw [bM hheap,bM e1,hcur]
   by_cases ho':o'<xs.length*ei.size
   ·rw [if_pos ho']
   ·exfalso
    cases m with
    | true=>exact hnc ⟨_,0,e2',rfl,Nat.zero_le _⟩
    | false=>exact hnc ⟨_,_,e2',rfl,by omega⟩
  ·rintro g cc T' rfl hhh
   rw [e1] at hhh
   simp only [Option.some.injEq,Obj.cells.injEq] at hhh
   obtain ⟨rfl,rfl,rfl⟩:=hhh
   exact ⟨_,hheap,hsz2⟩
 have htake:Ln own w (w.setRow gg (cur.toList.take (xs.length*ei.size)++news++cur.toList.drop (xs.length*ei.size+news.length)).toArray) u gg (some ⟨(d,1),[],if m then some 0 else some ((xs.length+ys.length)*ei.size)⟩):=by
  refine .inr ⟨_,e2',hA,fun k hk o' ⟨b,h1,h2⟩=>?_⟩
  simp only [Option.some.injEq] at hk
  subst hk
  cases m with
  | true=>exact ⟨0,rfl,Nat.zero_le _⟩
  | false=>
   simp only [Bool.false_eq_true,if_false,Option.some.injEq] at h1
   subst h1
   refine ⟨_,rfl,?_⟩
   rw [Nat.add_mul] at h2
   omega
 have hst:=NL (env:=env) (env':=put env d [.sl (xs++ys)]) (tv:=tvA a) (tv':=tvA (a.put (some d) (.slice (some ⟨gg,0,none⟩) (xs.length+ys.length) sCap))) hw hh hnd htake (fun k hk=>by
   simp only [Option.some.injEq] at hk
   subst hk
   exact ⟨by rw [hu];exact Nat.beq_refl _,.inr (fun y hy=>(has y hy).2)⟩)
  (fun s hs=>cY _ _ _ _ (by rw [hu] at hs;exact eB hs)) (fun s hs=>by rw [aQ a d _ hd,if_neg (by rw [hu] at hs;exact rR hs)])
 have haf:=Ka hw hh (fun g j hgj hj=>by
   have hgg:g=gg:=by rcases hgj with h | h<;>exact h
   subst hgg
   rw [e2'] at hj
   simp only [Option.some.injEq] at hj
   subst hj
   refine .inr (.inr ⟨⟨h,i,m,⟨ei.size,false⟩,if m then .x else .b,if m then .x else .b⟩,by rw [hu];exact List.mem_cons_self ..,(has _ (by rw [hu];exact List.mem_cons_self ..)).1,rfl,fun x v hor s k=>?_⟩)
   cases m with
   | true=>trivial
   | false=>exact hst.bs (OwnRep.borrow hor (fun g i hi=>(hw.dom g i hi).2) hw.s1)) hnd (fun y hy=> .inl (has y hy).1) hst
 refine ⟨_,aU own (aX u) gg (some ⟨(d,1),[],if m then some 0 else some ((xs.length+ys.length)*ei.size)⟩),_,hr,?_⟩
 rw [hod]
 refine ⟨hst,haf,fun p hp=>by rw [hu] at hp;simp at hp,fun d' sh' he=>?_,by simp [Act.put],rfl⟩
 rw [hu] at he
 simp only [Option.some.injEq,Prod.mk.injEq] at he
 obtain ⟨rfl,rfl⟩:=he
 refine jM d m (xs:=xs++ys) (sz:=ei.size) (cap:=sCap) (by rw [aQ a d _ hd,if_pos rfl,hlen]) (aI _ _ _) hheap (by rw [hlen];simp [aU]) (by rw [hlen];exact hroom) e4
  (by rw [hsz2];exact e5) e6 hpos hsz (TM (fun x hx=>hsz x (List.mem_append_left _ hx)) (fun i x j dd hx hj=>?_) (fun i x j dd hx hj=>?_))
 ·have hj':j<ei.size:=by rw [←hsz x (List.mem_append_left _ (List.mem_of_getElem? hx))];exact (List.getElem?_eq_some_iff.1 hj).1
  have hi':i<xs.length:=(List.getElem?_eq_some_iff.1 hx).1
  have:i*ei.size+ei.size≤xs.length*ei.size:=by rw [←Nat.succ_mul];exact Nat.mul_le_mul_right _ hi'
  refine ⟨vs i j,?_,hst.rs (e10 i x j dd hx hj)⟩
  rw [hcur,if_pos (by omega)]
  exact e9 i x j dd hx hj
 ·obtain ⟨v,hv,_,hG⟩:=hry.get i x j dd hx hj
  have hlt:=(List.getElem?_eq_some_iff.1 hv).1
  refine ⟨v,?_,hst.rs hG⟩
  rw [hcur,if_neg (by rw [Nat.add_mul];omega),if_pos (by rw [Nat.add_mul];omega),←hv]
  congr 1
  rw [Nat.add_mul]
  omega

end

end
section

def Ws (len:Nat):PathF
 | []=>none
 | (i,j)::r=>if i<len then some ((i,j)::r) else none

def Wt (len:Nat):PathF
 | []=>none
 | (i,j)::r=>some ((len+i,j)::r)

def Yt (lx ly:Option Leaf)(len:Nat)(l:Leaf):Option PathF:=
 if lx=some l then some (Ws len) else if ly=some l then some (Wt len) else none

theorem BC {len:Nat}{p q:List (Nat×Nat)}(h:Ws len p=some q):q=p∧∃ i j r,p=(i,j)::r∧i<len:=by
 cases p with
 | nil=>cases h
 | cons c r=>
  obtain ⟨i,j⟩:=c
  simp only [Ws] at h
  split at h
  ·rename_i hi
   simp only [Option.some.injEq] at h
   exact ⟨h.symm,i,j,r,rfl,hi⟩
  ·cases h

theorem BD {len:Nat}{p q:List (Nat×Nat)}(h:Wt len p=some q):∃ i j r,p=(i,j)::r∧q=(len+i,j)::r:=by
 cases p with
 | nil=>cases h
 | cons c r=>
  obtain ⟨i,j⟩:=c
  simp only [Wt,Option.some.injEq] at h
  exact ⟨i,j,r,rfl,h.symm⟩

def Wu (w:World)(own:Own)(l:Option Leaf)(i j:Nat)(d:D)(v:Value):Prop:=Scal d v∨∃ lf,l=some lf∧InRep w own lf true [(i,j)] d v

section
variable {P:Program}{C:Cfg}{w0:World}{own0:Own}{cx:Cx}{own own':Own}{w w':World}{a:Act}{env env':Env}{L:Look}{g:Gd}{o:Oper}{u:Up}{p:PS}{d:Nat}{lx ly:Option Leaf}

theorem Wv {len:Nat}{aas:List Aff}{sh:Sh}{nb:Option OI}(hlx:∀ l,lx=some l→∃ a∈aas,l=(a.h,a.i+1))(hly:∀ l,ly=some l→∃ a∈aas,l=(a.h,a.i+1))(hx:∀ a∈aas,a.to= .x)
  (hnb:∀ k,nb=some k→k=⟨(d,1),[],some 0⟩):MsOk {aff:=aas,dst:=some (d,sh) } (d,1) (Yt lx ly len) nb where
 hit:=fun l F h=>by
  unfold Yt at h
  split at h
  ·rename_i e;exact hlx l e
  ·split at h
   ·rename_i e;exact hly l e
   ·cases h
 inj:=fun l l' F F' p p' q h h' hF hF'=>by
  unfold Yt at h h'
  split at h
  ·rename_i e
   simp only [Option.some.injEq] at h
   rw [←h] at hF
   obtain ⟨e1,i,j,r,e2,e3⟩:=BC hF
   split at h'
   ·rename_i e'
    simp only [Option.some.injEq] at h'
    rw [←h'] at hF'
    obtain ⟨e1',_⟩:=BC hF'
    rw [e] at e'
    simp only [Option.some.injEq] at e'
    exact ⟨e',e1.symm.trans e1'⟩
   ·split at h'
    ·simp only [Option.some.injEq] at h'
     rw [←h'] at hF'
     obtain ⟨i',j',r',e1',e2'⟩:=BD hF'
     rw [e1,e2] at e2'
     simp only [List.cons.injEq,Prod.mk.injEq] at e2'
     omega
    ·cases h'
  ·split at h
   ·rename_i e
    simp only [Option.some.injEq] at h
    rw [←h] at hF
    obtain ⟨i,j,r,e1,e2⟩:=BD hF
    split at h'
    ·simp only [Option.some.injEq] at h'
     rw [←h'] at hF'
     obtain ⟨e1',i',j',r',e2',e3'⟩:=BC hF'
     rw [e1',e2'] at e2
     simp only [List.cons.injEq,Prod.mk.injEq] at e2
     omega
    ·split at h'
     ·rename_i e'
      simp only [Option.some.injEq] at h'
      rw [←h'] at hF'
      obtain ⟨i',j',r',e1',e2'⟩:=BD hF'
      rw [e2] at e2'
      simp only [List.cons.injEq,Prod.mk.injEq] at e2'
      rw [e] at e'
      simp only [Option.some.injEq] at e'
      refine ⟨e',?_⟩
      obtain ⟨⟨h3,h4⟩,h5⟩:=e2'
      rw [e1,e1',h4,h5,show i=i' from by omega]
     ·cases h'
   ·cases h
 tgt:= .inl (Nat.beq_refl _)
 noal:=fun y hy d' j m f=>by rw [hx y hy];simp
 nb:=fun k hk=>by
  rw [hnb k hk]
  refine ⟨rfl,fun l F p h hF=>?_⟩
  unfold Yt at h
  split at h
  ·simp only [Option.some.injEq] at h
   rw [←h] at hF
   obtain ⟨e1,i,j,r,e2,_⟩:=BC hF
   rw [e2] at e1
   cases e1
  ·split at h
   ·simp only [Option.some.injEq] at h
    rw [←h] at hF
    obtain ⟨i,j,r,_,e2⟩:=BD hF
    cases e2
   ·cases h

theorem Wu.left (hw:WOk w0 own0 cx own w){gi:Nat}{nb:Option OI}{gb:Nat→Prop}(hh:HeapOk own w w' u gb){len i j:Nat}(hi:i<len){x:D}{v:Value}(h:Wu w own lx i j x v)
  (hg:∀ g k,own g=some k→(∃ lf,lx=some lf∧k.leaf=lf)→k.path≠[]→¬gb g∧g≠gi):InRep w' (aU own (dG u (d,1) (Yt lx ly len)) gi nb) (d,1) true [(i,j)] x v:=by
 rcases h with h | ⟨lf,h1,h2⟩
 ·exact .scal h
 ·refine InRep.moved (T:=(d,1)) (gi:=gi) (nb:=nb) (q:=[(i,j)]) (F:=Ws len) hw hh (by unfold Yt;rw [if_pos h1]) (fun r=>by simp [Ws,hi]) (fun g k hk hl ⟨r,hp⟩=>hg g k hk ⟨lf,h1,hl⟩ (by rw [hp];simp)) h2

theorem Wu.right (hw:WOk w0 own0 cx own w){gi:Nat}{nb:Option OI}{gb:Nat→Prop}(hh:HeapOk own w w' u gb){len i j:Nat}{x:D}{v:Value}(h:Wu w own ly i j x v)(hne:∀ l,ly=some l→lx≠some l)
  (hg:∀ g k,own g=some k→(∃ lf,ly=some lf∧k.leaf=lf)→k.path≠[]→¬gb g∧g≠gi):InRep w' (aU own (dG u (d,1) (Yt lx ly len)) gi nb) (d,1) true [(len+i,j)] x v:=by
 rcases h with h | ⟨lf,h1,h2⟩
 ·exact .scal h
 ·refine InRep.moved (T:=(d,1)) (gi:=gi) (nb:=nb) (q:=[(len+i,j)]) (F:=Wt len) hw hh (by unfold Yt;rw [if_neg (hne lf h1),if_pos h1]) (fun r=>by simp [Wt]) (fun g k hk hl ⟨r,hp⟩=>hg g k hk ⟨lf,h1,hl⟩ (by rw [hp];simp)) h2

theorem NV {xs ys:List (List D)}{sz:Nat}{G:Nat→Nat→D→Value→Prop}{cur:Array Value}
  (h1:∀ (i:Nat) (x:List D) (j:Nat) (d:D),xs[i]? =some x→x[j]? =some d→∃ v,cur[i*sz+j]? =some v∧G i j d v)
  (h2:∀ (i:Nat) (x:List D) (j:Nat) (d:D),ys[i]? =some x→x[j]? =some d→∃ v,cur[(xs.length+i)*sz+j]? =some v∧G (xs.length+i) j d v):
  ∀ (i:Nat) (x:List D) (j:Nat) (d:D),(xs++ys)[i]? =some x→x[j]? =some d→∃ v,cur[i*sz+j]? =some v∧G i j d v:=by
 intro i x j dd hi hj
 by_cases h:i<xs.length
 ·rw [List.getElem?_append_left h] at hi
  exact h1 i x j dd hi hj
 ·rw [List.getElem?_append_right (by omega)] at hi
  have:=h2 _ x j dd hi hj
  rwa [show xs.length+(i - xs.length)=i from by omega] at this

variable (hC:CfgOk P C)(hw:WOk w0 own0 cx own w)(hL:∀ z,SlotOk w cx own env (tvA a) z (L z))(hg:∀ gs b,g=some (gs,b)→env gs=[.bool b])
 (hod:o.dst=some d)(hd:d<a.tmps.size)
include hC hw hod hd

theorem Kg {t t2 e e2:TypeId}{ei:TI}{c:Call}(ho:o.op= .call c)(hb:c.callee= .builtin .append){x y:Operand}(hargs:c.args=#[x,y])(htys:c.argTypes=#[t,t2])(ht:P.underlying t=some (.slice e))(ht2:P.underlying t2=some (.slice e2))(hei:C.ty e=some ei)
  {aas:List Aff}(hu:u={aff:=aas,dst:=some (d,.v false [.o true ⟨ei.size,true⟩]) })(hnd:bE aas=true)(has:∀ z∈aas,z.to= .x∧z.own= .x)
  (hlx:∀ l,lx=some l→∃ a∈aas,l=(a.h,a.i+1))(hly:∀ l,ly=some l→∃ a∈aas,l=(a.h,a.i+1))(hlne:∀ l,ly=some l→lx≠some l)
  {xs ys:List (List D)}{vx vy:Value}{olds news:List Value}(hvx:a.eval x=vx)(hvy:a.eval y=vy){B:Option Addr}{sCap:Nat}(hB:vx= .slice B xs.length sCap)(hpos:0<ei.size)
  (hrx:Row P w (Wu w own lx) ei.size xs vx olds)(hry:Row P w (Wu w own ly) ei.size ys vy news)(hlim:xs.length+ys.length≤lim)(hsz:∀ x∈xs++ys,x.length=ei.size)(hgr:sCap<xs.length+ys.length):
  nM P cx own w a env o u (put env d [.sl (xs++ys)]):=by
 have hE:=hC e ei hei
 obtain ⟨ie,z,hi1,hi2,hi3,_⟩:=hE.zero
 obtain ⟨ie',hj1,hj2,hj3,hj4⟩:=hE.info
 have hie:ie'=ie:=by rw [hi1] at hj1;exact (Option.some.inj hj1).symm
 subst hie
 obtain ⟨A,cap,hv2,_,_⟩:=hry.val
 have hlim':xs.length+ys.length≤1073741824:=hlim
 have hbb:(xs.length+ys.length)*ie'.bytes≤140737488355328:=by
  have e1:ie'.bytes≤100000:=by omega
  have:=Nat.mul_le_mul hlim' e1
  omega
 have hml:xs.length+ys.length≤maxLen:=by
  have:lim≤maxLen:=by decide
  omega
 have hfo:=hrx.run w.drew rfl
 have hf:=hry.run w.drew rfl
 rw [hB,←hj2] at hfo
 rw [hv2,←hj2] at hf
 have hrun:=DQ (P:=P) (w:=w) (ty:=o.type) ht ht2 hi1 hi2 hfo hf hgr (by omega) (growslice_fits hgr hbb)
 have hr:(execOp a.eval o).run P w= .ok (.value (.slice (some ⟨w.heap.size,0,none⟩) (xs.length+ys.length) (grownCap w (xs.length+ys.length) sCap e)))
   (w.drew.alloc (.cells (olds.toArray++news.toArray++Builtin.zeroCells z.cells (grownCap w (xs.length+ys.length) sCap e - (xs.length+ys.length))) e)):=by
  obtain ⟨k9,he9⟩:=fK (P:=P) (w:=w) (a:=a) ho hb
  rw [he9]
  simp only [builtin,hargs,htys,List.map_toArray,List.map_cons,List.map_nil,hvx,hvy,hB,hv2,Sem.run_bind,hrun,Result.andThen_ok,Sem.run_pure]
 subst hu
 have hlen:(xs++ys).length=xs.length+ys.length:=List.length_append
 have hh:=HeapOk.drew own w {aff:=aas,dst:=some (d,.v false [.o true ⟨ei.size,true⟩]) } (.cells (olds.toArray++news.toArray++Builtin.zeroCells z.cells (grownCap w (xs.length+ys.length) sCap e - (xs.length+ys.length))) e)
 refine ⟨_,aU own (dG {aff:=aas,dst:=some (d,.v false [.o true ⟨ei.size,true⟩]) } (d,1) (Yt lx ly xs.length)) w.heap.size (some ⟨(d,1),[],some 0⟩),_,hr,?_⟩
 rw [hod]
 refine Gs (nb:=some ⟨(d,1),[],some 0⟩) (gb:=fun _=>False) hw hh hnd (.inl ⟨rfl,fun k hk=>by show _<(w.heap.push _).size;simp⟩) (fun g i hgg hi=>?_) (Wv hlx hly (fun z hz=>(has z hz).1) (fun k hk=>(Option.some.inj hk).symm)) (fun y hy=>⟨(has y hy).1,.inl (has y hy).2⟩)
  (fun s hs=>cY _ _ _ _ (eB hs)) (fun s hs=>by rw [aQ a d _ hd,if_neg (rR hs)]) (by simp [Act.put]) rfl (fun st af=>⟨fun p hp=>by simp at hp,fun d' sh' he=>?_⟩)
 ·rcases hgg with h | h
  ·exact h.elim
  ·have:=(hw.dom g i hi).1
   omega
 ·simp only [Option.some.injEq,Prod.mk.injEq] at he
  obtain ⟨rfl,rfl⟩:=he
  have hge:=grownCap_ge w (xs.length+ys.length) sCap e
  have hzs:z.cells.size=ei.size:=by
   have:=mV hi3
   rw [hE.len] at this
   simpa using this
  have hcs:(olds.toArray++news.toArray++Builtin.zeroCells z.cells (grownCap w (xs.length+ys.length) sCap e - (xs.length+ys.length))).size=grownCap w (xs.length+ys.length) sCap e*ei.size:=by
   simp only [Array.size_append,List.size_toArray,size_zeroCells,hzs,hrx.len,hry.len,←Nat.add_mul]
   congr 1
   omega
  have hgg:∀ g k,own g=some k→¬False∧g≠w.heap.size:=fun g k hk=>⟨fun e=>e,fun e=>by have:=(hw.dom g k hk).1;omega⟩
  refine jM d true (uu:=true) (xs:=xs++ys) (sz:=ei.size) (cap:=grownCap w (xs.length+ys.length) sCap e) (by rw [aQ a d _ hd,if_pos rfl,hlen]) (aI _ _ _) (gg:=w.heap.size) (heap_alloc_new w.drew _) (by simp [aU]) (by rw [hlen];exact hge) (grownCap_le_maxLen w _ sCap e hml)
   (by rw [hcs];exact Nat.le_refl _) (fun o _=>by simp) hpos hsz (NV (fun i x j dd hx hj=>?_) (fun i x j dd hx hj=>?_))
  ·obtain ⟨v,hv,_,hG⟩:=hrx.get i x j dd hx hj
   refine ⟨v,?_,hG.left hw hh (List.getElem?_eq_some_iff.1 hx).1 (fun g k hk _ _=>hgg g k hk)⟩
   have hlt:=(List.getElem?_eq_some_iff.1 hv).1
   rw [Array.append_assoc,Array.getElem?_append_left (by simpa using hlt),List.getElem?_toArray]
   exact hv
  ·obtain ⟨v,hv,_,hG⟩:=hry.get i x j dd hx hj
   refine ⟨v,?_,hG.right hw hh hlne (fun g k hk _ _=>hgg g k hk)⟩
   have hlt:=(List.getElem?_eq_some_iff.1 hv).1
   have hol:=hrx.len
   rw [Array.append_assoc,Array.getElem?_append_right (by rw [List.size_toArray,hol,Nat.add_mul];omega),Array.getElem?_append_left (by rw [List.size_toArray,List.size_toArray,hol,Nat.add_mul];omega),List.getElem?_toArray]
   rw [←hv]
   congr 1
   rw [List.size_toArray,hol,Nat.add_mul]
   omega

theorem UP {t t2 e e2:TypeId}{ei:TI}{c:Call}(ho:o.op= .call c)(hb:c.callee= .builtin .append){x y:Operand}(hargs:c.args=#[x,y])(htys:c.argTypes=#[t,t2])(ht:P.underlying t=some (.slice e))(ht2:P.underlying t2=some (.slice e2))(hei:C.ty e=some ei)
  {aas:List Aff}(hu:u={aff:=aas,dst:=some (d,.v false [.o true ⟨ei.size,true⟩]) })(hnd:bE aas=true)(has:∀ z∈aas,z.to= .x∧z.own= .x){l0:Leaf}
  (hlx:∃ a∈aas,l0=(a.h,a.i+1))(hly:∀ l,ly=some l→∃ a∈aas,l=(a.h,a.i+1))(hlne:∀ l,ly=some l→some l0≠some l)
  {xs ys:List (List D)}{vy:Value}{news:List Value}{gg sCap:Nat}{cur:Array Value}{T:TypeId}{fr:Nat×Nat}{vs:Nat→Nat→Value}(hvx:a.eval x= .slice (some ⟨gg,0,none⟩) xs.length sCap)(hvy:a.eval y=vy)
  (e1:w.heap[gg]? =some (.cells cur T fr))(e2':own gg=some ⟨l0,[],some 0⟩)(e4:sCap≤maxLen)(e5:sCap*ei.size≤cur.size)(e6:∀ o,(o<sCap*ei.size∨1<ei.size)→(fr.1≤o&&o<fr.2)=false)(hpos:0<ei.size)
  (e9:∀ (i:Nat) (x:List D) (j:Nat) (d:D),xs[i]? =some x→x[j]? =some d→cur[i*ei.size+j]? =some (vs i j))(e10:∀ (i:Nat) (x:List D) (j:Nat) (d:D),xs[i]? =some x→x[j]? =some d→InRep w own l0 true [(i,j)] d (vs i j))
  (hry:Row P w (Wu w own ly) ei.size ys vy news)(hsz:∀ x∈xs++ys,x.length=ei.size)(hroom:xs.length+ys.length≤sCap):
  nM P cx own w a env o u (put env d [.sl (xs++ys)]):=by
 have hE:=hC e ei hei
 obtain ⟨ie,hj1,hj2,hj3,hj4⟩:=hE.info
 obtain ⟨A,cap,hv2,_,_⟩:=hry.val
 have hf:=hry.run w rfl
 rw [hv2,←hj2] at hf
 have hnl:news.length=ys.length*ie.size:=by rw [hj2];exact hry.len
 have hrun:=DO (P:=P) (w:=w) (ty:=o.type) ht ht2 hj1 e1 hnl hf hry.one hroom (by rw [hj2];exact fun o ho=>e6 o (.inl ho)) (by rw [hj2];exact e5)
 rw [hj2] at hrun
 have hr:(execOp a.eval o).run P w= .ok (.value (.slice (some ⟨gg,0,none⟩) (xs.length+ys.length) sCap)) (w.setRow gg (cur.toList.take (xs.length*ei.size)++news++cur.toList.drop (xs.length*ei.size+news.length)).toArray):=by
  obtain ⟨k9,he9⟩:=fK (P:=P) (w:=w) (a:=a) ho hb
  rw [he9]
  simp only [builtin,hargs,htys,List.map_toArray,List.map_cons,List.map_nil,hvx,hvy,hv2,Sem.run_bind,hrun,Result.andThen_ok,Sem.run_pure]
 have hlen:(xs++ys).length=xs.length+ys.length:=List.length_append
 have hm1:xs.length*ei.size+ys.length*ei.size≤sCap*ei.size:=by rw [←Nat.add_mul];exact Nat.mul_le_mul_right _ hroom
 have hnl2:=hry.len
 have b3:xs.length*ei.size+news.length≤cur.toList.length:=by simp;omega
 have hsz2:(cur.toList.take (xs.length*ei.size)++news++cur.toList.drop (xs.length*ei.size+news.length)).toArray.size=cur.size:=by
  have:=bQ b3
  simpa using this
 have hcur:∀ j,(cur.toList.take (xs.length*ei.size)++news++cur.toList.drop (xs.length*ei.size+news.length)).toArray[j]? =if j<xs.length*ei.size then cur[j]? else if j<xs.length*ei.size+news.length then news[j - xs.length*ei.size]? else cur[j]? :=by
  intro j
  rw [List.getElem?_toArray,dA b3]
  simp
 obtain ⟨a0,ha0,hl0⟩:=hlx
 have hA:u.A l0:=by
  rw [hl0]
  exact .inr (.inr ⟨a0.i,rfl,.inl (by rw [iF (u:=u) (by rw [hu];exact hnd) (by rw [hu];exact ha0)];rfl)⟩)
 have hheap:=setRow_heap w gg cur (cur.toList.take (xs.length*ei.size)++news++cur.toList.drop (xs.length*ei.size+news.length)).toArray T fr e1
 have hh:HeapOk own w (w.setRow gg (cur.toList.take (xs.length*ei.size)++news++cur.toList.drop (xs.length*ei.size+news.length)).toArray) u (fun g=>g=gg):=by
  refine ⟨rfl,rfl,rfl,by simp,fun g _ hne=>setRow_other w gg g _ hne,?_,?_,?_⟩
  ·rintro g rfl;exact ⟨_,e2',hA⟩
  ·rintro g o' rfl hnc
   exact absurd ⟨_,0,e2',rfl,Nat.zero_le _⟩ hnc
  ·rintro g cc T' rfl hhh
   rw [e1] at hhh
   simp only [Option.some.injEq,Obj.cells.injEq] at hhh
   obtain ⟨rfl,rfl,rfl⟩:=hhh
   exact ⟨_,hheap,hsz2⟩
 refine ⟨_,aU own (dG u (d,1) (Yt (some l0) ly xs.length)) gg (some ⟨(d,1),[],some 0⟩),_,hr,?_⟩
 rw [hod]
 have hgg:∀ g k,own g=some k→k.path≠[]→¬(g=gg)∧g≠gg:=fun g k hk hp=>by
  have:g≠gg:=fun e=>by
   rw [e,e2'] at hk
   simp only [Option.some.injEq] at hk
   rw [←hk] at hp
   exact hp rfl
  exact ⟨this,this⟩
 refine Gs (nb:=some ⟨(d,1),[],some 0⟩) (gb:=fun g=>g=gg) hw hh (by rw [hu];exact hnd) (.inr ⟨_,e2',hA,fun k hk o' _=>⟨0,rfl,Nat.zero_le _⟩⟩) (fun g i hg2 hi=>?_)
  (by rw [hu];exact Wv (fun l hl=>by cases hl;exact ⟨a0,ha0,hl0⟩) hly (fun z hz=>(has z hz).1) (fun k hk=>(Option.some.inj hk).symm)) (fun y hy=>by rw [hu] at hy;exact ⟨(has y hy).1,.inl (has y hy).2⟩)
  (fun s hs=>cY _ _ _ _ (by rw [hu] at hs;exact eB hs)) (fun s hs=>by rw [aQ a d _ hd,if_neg (by rw [hu] at hs;exact rR hs)]) (by simp [Act.put]) rfl (fun st af=>⟨fun p hp=>by rw [hu] at hp;simp at hp,fun d' sh' he=>?_⟩)
 ·have:g=gg:=by rcases hg2 with h | h<;>exact h
  subst this
  rw [e2'] at hi
  simp only [Option.some.injEq] at hi
  subst hi
  exact ⟨a0,by rw [hu];exact ha0,hl0⟩
 ·rw [hu] at he
  simp only [Option.some.injEq,Prod.mk.injEq] at he
  obtain ⟨rfl,rfl⟩:=he
  refine jM d true (uu:=true) (xs:=xs++ys) (sz:=ei.size) (cap:=sCap) (by rw [aQ a d _ hd,if_pos rfl,hlen]) (aI _ _ _) hheap (by simp [aU]) (by rw [hlen];exact hroom) e4
   (by rw [hsz2];exact e5) e6 hpos hsz (NV (fun i x j dd hx hj=>?_) (fun i x j dd hx hj=>?_))
  ·have hj':j<ei.size:=by rw [←hsz x (List.mem_append_left _ (List.mem_of_getElem? hx))];exact (List.getElem?_eq_some_iff.1 hj).1
   have hi':i<xs.length:=(List.getElem?_eq_some_iff.1 hx).1
   have:i*ei.size+ei.size≤xs.length*ei.size:=by rw [←Nat.succ_mul];exact Nat.mul_le_mul_right _ hi'
   have hat:Wu w own (some l0) i j dd (vs i j):= .inr ⟨l0,rfl,e10 i x j dd hx hj⟩
   refine ⟨vs i j,?_,hat.left hw hh hi' (fun g k hk _ hp=>hgg g k hk hp)⟩
   rw [hcur,if_pos (by omega)]
   exact e9 i x j dd hx hj
  ·obtain ⟨v,hv,_,hG⟩:=hry.get i x j dd hx hj
   have hlt:=(List.getElem?_eq_some_iff.1 hv).1
   refine ⟨v,?_,hG.right hw hh hlne (fun g k hk _ hp=>hgg g k hk hp)⟩
   rw [hcur,if_neg (by rw [Nat.add_mul];omega),if_pos (by rw [Nat.add_mul];omega),←hv]
   congr 1
   rw [Nat.add_mul]
   omega

include hL hg in
theorem Ww {t t2 e e2:TypeId}{ei:TI}{c:Call}(ho:o.op= .call c)(hb:c.callee= .builtin .append){x y:Operand}(hargs:c.args=#[x,y])(htys:c.argTypes=#[t,t2])(ht:P.underlying t=some (.slice e))(ht2:P.underlying t2=some (.slice e2))(hei:C.ty e=some ei)
  {sc:Bool}{ax ay:List Aff}(hu:u={aff:=ax++ay,dst:=some (d,.v false [.o true ⟨ei.size,true⟩]) })(hnd:bE (ax++ay)=true)(has:∀ z∈ax++ay,z.to= .x∧z.own= .x)(hp:pstep p env=some env')
  {dx dy:D}{vx vy:Value}(hvx:a.eval x=vx)(hdx:(cC x).get env=[dx])(hvy:a.eval y=vy)(hdy:(cC y).get env=[dy])(hpos:0<ei.size)
  (hbase:(∀ xs,dx= .sl xs→xs=[]∧vx= .slice none 0 0)∨∃ h i f,⟨h,i,true,f,.x,.x⟩∈ax∧f=⟨ei.size,true⟩∧OwnRep w cx own (h,i+1) true f dx vx)
  (hlx:∀ b∈ax,∀ c∈ay,(b.h,b.i+1)≠(c.h,c.i+1))
  (hrow:∀ ys,dy= .sl ys→(∀ y∈ys,y.length=ei.size)→(sc=true→∀ y∈ys,y.all oW=true)→∃ ly,(∀ l,ly=some l→∃ a∈ay,l=(a.h,a.i+1))∧∃ news,Row P w (Wu w own ly) ei.size ys vy news)
  (hpp:p= .app d ei.size sc (cC x) (cC y)):nM P cx own w a env o u env':=by
 subst hpp
 simp only [pstep,hdx,hdy] at hp
 split at hp
 rotate_left
 ·cases hp
 rename_i _ _ xs ys he1 he2
 simp only [List.cons.injEq,and_true] at he1 he2
 subst he1;subst he2
 split at hp
 rotate_left
 ·cases hp
 rename_i hk
 obtain ⟨hlim,hsz,hsc⟩:=hk
 simp only [Option.some.injEq] at hp
 subst hp
 obtain ⟨ly,hly0,news,hry⟩:=hrow ys rfl (fun y hy=>hsz y (List.mem_append_right _ hy)) hsc
 have hly:∀ l,ly=some l→∃ a∈ax++ay,l=(a.h,a.i+1):=fun l hl=>by
  obtain ⟨b,h1,h2⟩:=hly0 l hl
  exact ⟨b,List.mem_append_right _ h1,h2⟩
 -- a nil base
 have nilb:xs=[]→vx= .slice none 0 0→nM P cx own w a env o u (put env d [.sl (xs++ys)]):=by
  intro hxs hv
  subst hxs
  by_cases hys:ys=[]
  ·subst hys
   obtain ⟨A,cap,hv2,_,_⟩:=hry.val
   obtain ⟨ie,hj1,hj2,_⟩:=(hC e ei hei).info
   have hf:=hry.run w rfl
   have hnn:news=[]:=List.eq_nil_of_length_eq_zero (by rw [hry.len];simp)
   rw [hv2,←hj2,hnn] at hf
   have hrun:=DP (P:=P) (w:=w) (ty:=o.type) ht ht2 hj1 hf
   have hr:(execOp a.eval o).run P w= .ok (.value (.slice none 0 0)) w:=by
    obtain ⟨k9,he9⟩:=fK (P:=P) (w:=w) (a:=a) ho hb
    rw [he9]
    simp only [List.length_nil] at hv2
    simp only [builtin,hargs,htys,List.map_toArray,List.map_cons,List.map_nil,hvx,hvy,hv,hv2,Sem.run_bind,hrun,Result.andThen_ok,Sem.run_pure]
   subst hu
   refine ⟨_,aU own (aX {aff:=ax++ay,dst:=some (d,.v false [.o true ⟨ei.size,true⟩]) }) w.heap.size none,w,hr,?_⟩
   rw [hod]
   refine fG (nb:=none) hw (HeapOk.same_world own w _) (fun g i h=>h.elim) hnd (fun y hy=> .inl ⟨by rw [(has y hy).1,(has y hy).2],.inr (.inr (.inl (has y hy).1))⟩) (fun k hk=>by cases hk)
    (fun s hs=>cY _ _ _ _ (eB hs)) (fun s hs=>by rw [aQ a d _ hd,if_neg (rR hs)]) (by simp [Act.put]) rfl (fun st af=>⟨fun p hp=>by simp at hp,fun d' sh' he=>?_⟩)
   simp only [Option.some.injEq,Prod.mk.injEq] at he
   obtain ⟨rfl,rfl⟩:=he
   exact wJ hd ⟨⟨fun _=>by simp,fun _=>by simp⟩,.nil⟩
  ·have hyl:0<ys.length:=List.length_pos_iff.2 hys
   exact Kg (lx:=none) hC hw hod hd ho hb hargs htys ht ht2 hei hu hnd has (fun l hl=>by cases hl) hly (fun l _ e=>by cases e) hvx hvy (B:=none) (sCap:=0) hv hpos (by rw [hv];exact Gt none 0) hry hlim hsz (by simp;omega)
 rcases hbase with hbase | ⟨h,i,f,hax,hfe,hor⟩
 ·obtain ⟨h1,h2⟩:=hbase xs rfl
  exact nilb h1 h2
 ·have hl0:∃ a∈ax++ay,(h,i+1)=(a.h,a.i+1):=⟨_,List.mem_append_left _ hax,rfl⟩
  have hlne:∀ l,ly=some l→some (h,i+1)≠some l:=fun l hl e=>by
   obtain ⟨b,h1,h2⟩:=hly0 l hl
   simp only [Option.some.injEq] at e
   exact hlx _ hax b h1 (by rw [←h2,←e])
  generalize hdd:D.sl xs=dd at hor
  cases hor with
  | ip _ _ hf'=>
   rw [hfe] at hf'
   exact absurd (congrArg Fz.sz hf') (by simp only [];omega)
  | nil=>
   simp only [D.sl.injEq] at hdd
   exact nilb hdd rfl
  | sl xs' gg cap cur T fr vs e1 e2' e3 e4 e5 e6 e7 e8 e9 e10=>
   simp only [D.sl.injEq] at hdd
   subst hdd
   subst hfe
   simp only [] at e5 e6 e8 e9 e10
   have e10':∀ (i':Nat) (x:List D) (j:Nat) (d:D),xs[i']? =some x→x[j]? =some d→InRep w own (h,i+1) true [(i',j)] d (vs i' j):=e10
   by_cases hroom:xs.length+ys.length≤cap
   ·exact UP hC hw hod hd ho hb hargs htys ht ht2 hei hu hnd has hl0 hly hlne hvx hvy e1 e2' e4 e5 e6 hpos e9 e10' hry hsz hroom
   ·obtain ⟨olds,hrx⟩:=Hg (P:=P) (G:=Wu w own (some (h,i+1))) hpos (fun y hy=>hsz y (List.mem_append_left _ hy)) (v:= .slice (some ⟨gg,0,none⟩) xs.length cap) rfl e3 e8
     (fun i x j dd hx hj=>by rw [Nat.zero_add,bM e1];exact e9 i x j dd hx hj) (fun i' x j dd hx hj=>⟨(e10' i' x j dd hx hj).cell1,.inr ⟨_,rfl,e10' i' x j dd hx hj⟩⟩)
    exact Kg hC hw hod hd ho hb hargs htys ht ht2 hei hu hnd has (fun l hl=>by cases hl;exact hl0) hly hlne hvx hvy rfl hpos hrx hry hlim hsz (by omega)

end

end
section

section
variable {P:Program}{C:Cfg}{w0:World}{own0:Own}{cx:Cx}{own own':Own}{w w':World}{a:Act}{env env':Env}{L:Look}{g:Gd}{o:Oper}{u:Up}{p:PS}{d:Nat}

variable (hC:CfgOk P C)(hw:WOk w0 own0 cx own w)(hL:∀ z,SlotOk w cx own env (tvA a) z (L z))(hg:∀ gs b,g=some (gs,b)→env gs=[.bool b])
 (hod:o.dst=some d)(hd:d<a.tmps.size)(hp:pstep p env=some env')
include hC hw hL hg hod hd hp

theorem ZN {t t2 e e2:TypeId}{ei:TI}{c:Call}(ho:o.op= .call c)(hb:c.callee= .builtin .append){x y:Operand}(hargs:c.args=#[x,y])(htys:c.argTypes=#[t,t2])(ht:P.underlying t=some (.slice e))(ht2:P.underlying t2=some (.slice e2))(hei:C.ty e=some ei)
  {m sc:Bool}{ax ay:List Aff}(hu:u={aff:=ax++ay,dst:=some (d,.v false [.o m ⟨ei.size,false⟩]) })(hnd:bE u.aff=true)(hay:∀ z∈ay,dL z∧z.to= .r)
  {dx dy:D}{vx vy:Value}(hvx:a.eval x=vx)(hdx:(cC x).get env=[dx])(hvy:a.eval y=vy)(hdy:(cC y).get env=[dy])(hpos:0<ei.size)
  (hbase:(∀ xs,dx= .sl xs→xs=[]∧vx= .slice none 0 0∧ax=[])∨∃ h i,ax=[⟨h,i,m,⟨ei.size,false⟩,if m then .x else .b,if m then .x else .b⟩]∧h≠d∧OwnRep w cx own (h,i+1) m ⟨ei.size,false⟩ dx vx)
  (hrow:∀ ys,dy= .sl ys→(∀ y∈ys,y.length=ei.size)→(sc=true→∀ y∈ys,y.all oW=true)→∃ news,Row P w (fun _ _=>Rep w (RS cx own)) ei.size ys vy news)
  (hpp:p= .app d ei.size sc (cC x) (cC y)):nM P cx own w a env o u env':=by
 subst hpp
 simp only [pstep,hdx,hdy] at hp
 split at hp
 rotate_left
 ·cases hp
 rename_i _ _ xs ys he1 he2
 simp only [List.cons.injEq,and_true] at he1 he2
 subst he1;subst he2
 split at hp
 rotate_left
 ·cases hp
 rename_i hk
 obtain ⟨hlim,hsz,hsc⟩:=hk
 simp only [Option.some.injEq] at hp
 subst hp
 obtain ⟨news,hry⟩:=hrow ys rfl (fun y hy=>hsz y (List.mem_append_right _ hy)) hsc
 have hmov:(∀ z∈ax,dL z∧∀ d j m f,z.to≠ .al d j m f)→∀ z∈u.aff,dL z∧∀ d j m f,z.to≠ .al d j m f:=by
  intro hax z hz
  rw [hu] at hz
  rcases List.mem_append.1 hz with hz | hz
  ·exact hax z hz
  ·exact ⟨(hay z hz).1,fun d j m f=>by rw [(hay z hz).2];simp⟩
 -- a nil base
 have nilb:xs=[]→vx= .slice none 0 0→(∀ z∈ax,dL z∧∀ d j m f,z.to≠ .al d j m f)→nM P cx own w a env o u (put env d [.sl (xs++ys)]):=by
  intro hxs hv hax
  subst hxs
  by_cases hys:ys=[]
  ·subst hys
   obtain ⟨A,cap,hv2,_,_⟩:=hry.val
   obtain ⟨ie,hj1,hj2,_⟩:=(hC e ei hei).info
   have hf:=hry.run w rfl
   have hnn:news=[]:=List.eq_nil_of_length_eq_zero (by rw [hry.len];simp)
   rw [hv2,←hj2,hnn] at hf
   have hrun:=DP (P:=P) (w:=w) (ty:=o.type) ht ht2 hj1 hf
   have hr:(execOp a.eval o).run P w= .ok (.value (.slice none 0 0)) w:=by
    obtain ⟨k9,he9⟩:=fK (P:=P) (w:=w) (a:=a) ho hb
    rw [he9]
    simp only [List.length_nil] at hv2
    simp only [builtin,hargs,htys,List.map_toArray,List.map_cons,List.map_nil,hvx,hvy,hv,hv2,Sem.run_bind,hrun,Result.andThen_ok,Sem.run_pure]
   have hm2:=hmov hax
   subst hu
   refine ⟨_,aU own (aX {aff:=ax++ay,dst:=some (d,.v false [.o m ⟨ei.size,false⟩]) }) w.heap.size none,w,hr,?_⟩
   rw [hod]
   refine fG (nb:=none) hw (HeapOk.same_world own w _) (fun g i h=>h.elim) hnd (fun y hy=> .inl (hm2 y hy).1) (fun k hk=>by cases hk)
    (fun s hs=>cY _ _ _ _ (eB hs)) (fun s hs=>by rw [aQ a d _ hd,if_neg (rR hs)]) (by simp [Act.put]) rfl (fun st af=>⟨fun p hp=>by simp at hp,fun d' sh' he=>?_⟩)
   simp only [Option.some.injEq,Prod.mk.injEq] at he
   obtain ⟨rfl,rfl⟩:=he
   exact wJ hd ⟨⟨fun _=>by simp,fun _=>by simp⟩,.nil⟩
  ·have hyl:0<ys.length:=List.length_pos_iff.2 hys
   exact NU hC hw hod hd ho hb hargs htys ht ht2 hei hu (by rw [hu] at hnd;exact hnd) (by have:=hmov hax;rw [hu] at this;exact this) hvx hvy (B:=none) (sCap:=0) hv hpos (by rw [hv];exact Gt none 0) hry hlim hsz (by simp;omega)
 rcases hbase with hbase | ⟨h,i,hax,hhd,hor⟩
 ·obtain ⟨h1,h2,h3⟩:=hbase xs rfl
  exact nilb h1 h2 (by rw [h3];intro z hz;simp at hz)
 ·have hax':∀ z∈ax,dL z∧∀ d j m f,z.to≠ .al d j m f:=by
   rw [hax]
   intro z hz
   simp only [List.mem_singleton] at hz
   subst hz
   cases m with
   | true=>exact ⟨⟨rfl,.inr (.inr (.inl rfl))⟩,fun d j m f=>by simp⟩
   | false=>exact ⟨⟨rfl,.inr (.inr (.inr rfl))⟩,fun d j m f=>by simp⟩
  generalize hdd:D.sl xs=dd at hor
  cases hor with
  | ip _ _ hf=>exact absurd (congrArg Fz.u hf) (by simp)
  | nil=>
   simp only [D.sl.injEq] at hdd
   exact nilb hdd rfl hax'
  | sl xs' gg cap cur T fr vs e1 e2' e3 e4 e5 e6 e7 e8 e9 e10=>
   simp only [D.sl.injEq] at hdd
   subst hdd
   by_cases hroom:xs.length+ys.length≤cap
   ·rw [hax] at hu
    exact Wr hC hw hod hd ho hb hargs htys ht ht2 hei hu hnd (hmov hax') hhd hvx hvy e1 e2' e4 e5 e6 hpos e9 e10 hry hsz hroom
   ·obtain ⟨olds,hrx⟩:=Hg (P:=P) (G:=fun _ _=>Rep w (RS cx own)) hpos (fun y hy=>hsz y (List.mem_append_left _ hy)) (v:= .slice (some ⟨gg,0,none⟩) xs.length cap) rfl e3 e8
     (fun i x j dd hx hj=>by rw [Nat.zero_add,bM e1];exact e9 i x j dd hx hj) (fun i x j dd hx hj=>⟨(e10 i x j dd hx hj).cell1,e10 i x j dd hx hj⟩)
    exact NU hC hw hod hd ho hb hargs htys ht ht2 hei hu (by rw [hu] at hnd;exact hnd) (by have:=hmov hax';rw [hu] at this;exact this) hvx hvy rfl hpos hrx hry hlim hsz (by omega)

theorem UQ {c:Call}{x y:Operand}{t t2:TypeId}(ho:o.op= .call c)(hb:c.callee= .builtin .append)(hargs:c.args.toList=[x,y])(htys:c.argTypes.toList=[t,t2])(hc:Lg C L g d t t2 x y=some (u,p)):nM P cx own w a env o u env':=by
 have hargs':c.args=#[x,y]:=by rw [←Array.toArray_toList (xs:=c.args),hargs]
 have htys':c.argTypes=#[t,t2]:=by rw [←Array.toArray_toList (xs:=c.argTypes),htys]
 unfold Lg at hc
 split at hc
 rotate_left
 ·cases hc
 rename_i ti t2i hti ht2i
 split at hc
 rotate_left
 ·cases hc
 rename_i e e2 hde hde2
 split at hc
 rotate_left
 ·cases hc
 rename_i ei cx' cy hei hsx hsy
 obtain ⟨dx,vx,sx,h1,h2,h3,h4,h5,h6⟩:=opL hL hg hsx
 obtain ⟨dy,vy,sy,k1,k2,k3,k4,k5,k6⟩:=opL hL hg hsy
 simp only at hc
 split at hc
 ·-- all below the base is owned with it
  rename_i hub
  split at hc
  ·cases hc
  rename_i ay hay
  split at hc
  rotate_left
  ·cases hc
  rename_i hk
  simp only [Bool.and_eq_true] at hk
  obtain ⟨⟨hnd,hns⟩,hpos⟩:=hk
  simp only [Option.some.injEq,Prod.mk.injEq] at hc
  obtain ⟨hcu,hcp⟩:=hc
  have hayx:∀ z∈ay,z.to= .x∧z.own= .x:=by
   intro z hz
   split at hay
   ·simp only [Option.some.injEq] at hay;subst hay;simp at hz
   ·split at hay
    ·simp only [Option.some.injEq] at hay;subst hay;simp at hz
    ·split at hay
     ·split at hay
      ·simp only [Option.some.injEq] at hay
       subst hay
       simp only [List.mem_singleton] at hz
       subst hz
       exact ⟨rfl,rfl⟩
      ·cases hay
     ·cases hay
  have haxx:∀ z∈(match KQ x cx' with | some (h,i,m,f)=>[(⟨h,i,m,f,.x,.x⟩:Aff)] | none=>[]),z.to= .x∧z.own= .x:=by
   intro z hz
   split at hz
   ·simp only [List.mem_singleton] at hz
    subst hz
    exact ⟨rfl,rfl⟩
   ·simp at hz
  refine Ww hC hw hL hg hod hd ho hb hargs' htys' ((hC t ti hti).slice hde) ((hC t2 t2i ht2i).slice hde2) hei hcu.symm hnd (fun z hz=>by
   rcases List.mem_append.1 hz with hz | hz
   ·exact haxx z hz
   ·exact hayx z hz) hp h1 h2 k1 k2 (Nat.le_of_ble_eq_true hpos) ?_ (fun b hb c hc e=>?_) ?_ hcp.symm
  ·-- the base
   split at hub
   ·obtain ⟨e1,e2⟩:=h4.2
    refine .inl fun xs hxs=>⟨?_,e2⟩
    rw [e1] at hxs;cases hxs;rfl
   ·split at hub
    ·rename_i h0 i0 m1 f1 hox
     simp only [Bool.and_eq_true] at hub
     obtain ⟨rfl,hf⟩:=hub
     have hf':=pO.1 hf
     subst hf'
     refine .inr ⟨h0,i0,_,List.mem_singleton.2 rfl,rfl,?_⟩
     unfold KQ at hox
     split at hox
     ·rename_i s
      obtain rfl:=h3 s rfl
      have h42:=h4.2
      cases cx'<;>simp only [KP,Option.some.injEq,Prod.mk.injEq,reduceCtorEq] at hox
      ·obtain ⟨rfl,rfl,rfl,rfl⟩:=hox
       exact h42
      ·obtain ⟨rfl,rfl,rfl,rfl⟩:=hox
       exact h42
     ·cases hox
    ·cases hub
  ·have:∀ {l1 l2:List Aff},bE (l1++l2)=true→∀ b∈l1,∀ c∈l2,¬(b.h=c.h∧b.i=c.i):=by
    intro l1 l2 h b hb c hc
    induction l1 with
    | nil=>simp at hb
    | cons x r ih=>
     simp only [List.cons_append,bE,Bool.and_eq_true,Bool.not_eq_true'] at h
     rcases List.mem_cons.1 hb with rfl | hb
     ·rintro ⟨q1,q2⟩
      have:=List.any_eq_false.1 h.1 c (List.mem_append_right _ hc)
      rw [q1,q2] at this
      simp at this
     ·exact ih h.2 hb
   simp only [Prod.mk.injEq,Nat.add_right_cancel_iff] at e
   exact this hnd b hb c hc e
  ·intro ys hys hysz hsc
   subst hys
   obtain ⟨A,cap,hv2,hcap2⟩:=(aS.rep k4 k5).slice'
   have hemp:ys=[]→∃ ly:Option Leaf,(∀ l,ly=some l→∃ a∈ay,l=(a.h,a.i+1))∧∃ news,Row P w (Wu w own ly) ei.size ys vy news:=by
    rintro rfl
    rw [hv2]
    exact ⟨none,(fun l hl=>by cases hl),[],Gt A cap⟩
   cases hsca:uP ei.zero with
   | true=>
    rcases DH hw k5 k4 k6 with h | ⟨gg,off,sz,cap',vs,hv',h12,h13,h14,h15⟩
    ·exact hemp h
    ·rw [hv2] at hv'
     simp only [Value.slice.injEq] at hv'
     obtain ⟨rfl,_,rfl⟩:=hv'
     refine ⟨none,(fun l hl=>by cases hl),Hg (Nat.le_of_ble_eq_true hpos) hysz hv2 hcap2 h12 h13 (fun i x j dd hx hj=>⟨(h14 i x j dd hx hj).cell1,.inl ?_⟩)⟩
     have hall:=hsc hsca x (List.mem_of_getElem? hx)
     have hdd:=List.all_eq_true.1 hall dd (List.mem_of_getElem? hj)
     refine (h14 i x j dd hx hj).scal' ?_
     cases dd<;>first | exact .inl ⟨_,_,rfl⟩ | exact .inr (.inl ⟨_,rfl⟩) | exact .inr (.inr ⟨_,rfl⟩) | cases hdd
   | false=>
    rw [hsca] at hay
    simp only at hay
    split at hay
    ·exact hemp (by have:=k4.2.1;cases this;rfl)
    ·split at hay
     ·rename_i h0 i0 m1 f1 hoy
      split at hay
      ·rename_i hmu
       simp only [Bool.and_eq_true] at hmu
       obtain ⟨rfl,hfu⟩:=hmu
       simp only [Option.some.injEq] at hay
       have hor:OwnRep w cx own (h0,i0+1) true f1 (.sl ys) vy:=by
        unfold KQ at hoy
        split at hoy
        ·rename_i s
         obtain rfl:=k3 s rfl
         have k42:=k4.2
         cases cy<;>simp only [KP,Option.some.injEq,Prod.mk.injEq,reduceCtorEq] at hoy
         ·obtain ⟨rfl,rfl,rfl,rfl⟩:=hoy
          exact k42
         ·obtain ⟨rfl,rfl,rfl,rfl⟩:=hoy
          exact k42
        ·cases hoy
       by_cases hne:ys=[]
       ·exact hemp hne
       ·obtain ⟨gg,sz,cap',cur,Ty,fr,vs,e0,e1,e2,e3,e4,e5,e6,_,_⟩:=OwnRep.opened hfu hor hne
        rw [hv2] at e0
        simp only [Value.slice.injEq] at e0
        obtain ⟨rfl,_,rfl⟩:=e0
        refine ⟨some (h0,i0+1),fun l hl=>?_,Hg (Nat.le_of_ble_eq_true hpos) hysz hv2 hcap2 e4 (fun i x j dd hx hj=>by rw [Nat.zero_add,bM e1];exact e5 i x j dd hx hj) (fun i x j dd hx hj=>⟨(e6 i x j dd hx hj).cell1,.inr ⟨_,rfl,e6 i x j dd hx hj⟩⟩)⟩
        simp only [Option.some.injEq] at hl
        subst hl
        exact ⟨_,by rw [←hay];exact List.mem_singleton.2 rfl,rfl⟩
      ·cases hay
     ·cases hay
 rename_i hub0
 clear hub0
 split at hc
 ·cases hc
 rename_i m hbase
 split at hc
 ·cases hc
 rename_i ay hay
 split at hc
 ·cases hc
 rename_i hk
 simp only [Bool.and_eq_true] at hk
 obtain ⟨⟨⟨hnd,hhd⟩,hns⟩,hpos⟩:=hk
 simp only [Option.some.injEq,Prod.mk.injEq] at hc
 obtain ⟨hcu,hcp⟩:=hc
 have hayr:∀ z∈ay,dL z∧z.to= .r:=by
  intro z hz
  split at hay
  ·simp only [Option.some.injEq] at hay;subst hay;simp at hz
  ·split at hay
   ·obtain ⟨_,_,_,_,_,_,h7,_⟩:=uT hL hg hay
    exact h7 z hz
   ·cases hay
 refine ZN hC hw hL hg hod hd hp ho hb hargs' htys' ((hC t ti hti).slice hde) ((hC t2 t2i ht2i).slice hde2) hei hcu.symm (by rw [←hcu];exact hnd) hayr h1 h2 k1 k2 (Nat.le_of_ble_eq_true hpos) ?_ ?_ hcp.symm
 ·-- the base
  split at hbase
  ·obtain ⟨e1,e2⟩:=h4.2
   refine .inl fun xs hxs=>⟨?_,e2,?_⟩
   ·rw [e1] at hxs;cases hxs;rfl
   ·cases x<;>rfl
  ·split at hbase
   ·rename_i m1 f1 hox
    split at hbase
    ·rename_i hf
     have hf':=pO.1 hf
     subst hf'
     simp only [Option.some.injEq] at hbase
     subst hbase
     rename_i h0 i0 _
     refine .inr ⟨h0,i0,rfl,?_,?_⟩
     ·rintro rfl
      first
       | (rw [hox] at hhd;simp at hhd;done)
       | (simp only [Bool.not_eq_true',Nat.beq_refl] at hhd;cases hhd;done)
       | exact absurd hhd (by simp)
     ·unfold KQ at hox
      split at hox
      ·rename_i s
       obtain rfl:=h3 s rfl
       have h42:=h4.2
       cases cx'<;>simp only [KP,Option.some.injEq,Prod.mk.injEq,reduceCtorEq] at hox
       ·obtain ⟨rfl,rfl,rfl,rfl⟩:=hox
        exact h42
       ·obtain ⟨rfl,rfl,rfl,rfl⟩:=hox
        exact h42
      ·cases hox
    ·cases hbase
   ·cases hbase
 ·intro ys hys hysz hsc
  subst hys
  obtain ⟨A,cap,hv2,hcap2⟩:=(aS.rep k4 k5).slice'
  have hemp:ys=[]→∃ news,Row P w (fun _ _=>Rep w (RS cx own)) ei.size ys vy news:=by
   rintro rfl
   rw [hv2]
   exact ⟨[],Gt A cap⟩
  rcases DH hw k5 k4 k6 with h | ⟨gg,off,sz,cap',vs,hv',h12,h13,h14,h15⟩
  ·exact hemp h
  ·rw [hv2] at hv'
   simp only [Value.slice.injEq] at hv'
   obtain ⟨rfl,_,rfl⟩:=hv'
   refine Hg (Nat.le_of_ble_eq_true hpos) hysz hv2 hcap2 h12 h13 (fun i x j dd hx hj=>⟨(h14 i x j dd hx hj).cell1,?_⟩)
   cases hsca:uP ei.zero with
   | true=>
    have hall:=hsc hsca x (List.mem_of_getElem? hx)
    have hdd:=List.all_eq_true.1 hall dd (List.mem_of_getElem? hj)
    refine .scal ((h14 i x j dd hx hj).scal' ?_)
    cases dd<;>first | exact .inl ⟨_,_,rfl⟩ | exact .inr (.inl ⟨_,rfl⟩) | exact .inr (.inr ⟨_,rfl⟩) | cases hdd
   | false=>
    rw [hsca] at hay
    simp only at hay
    split at hay
    ·rename_i he
     have:=h15 i x j dd 0 0 hx hj
     rw [he] at this
     exact this
    ·cases hay

end

end
section

structure EqTy (P:Program) (t:Nat) (zs:List D):Prop where
 guard:P.eqGuardType P.depth t=false
 run:∀ (w:World) (xs ys:List D) (vs us:List Value),fits zs xs=true→fits zs ys=true→vs.length=xs.length→us.length=ys.length→
  (∀ (i:Nat) (d:D) (v:Value),xs[i]? =some d→vs[i]? =some v→Scal d v)→(∀ (i:Nat) (d:D) (v:Value),ys[i]? =some d→us[i]? =some v→Scal d v)→
  (Op.equalIn 10000 t (.agg vs.toArray) (.agg us.toArray)).run P w= .ok (eqDs xs ys) w

def EqOk (P:Program)(C:Cfg):Prop:=∀ t ti,C.eqt.any (Nat.beq t)=true→C.ty t=some ti→EqTy P t ti.zero

section
variable {P:Program}{C:Cfg}{w0:World}{own0:Own}{cx:Cx}{own own':Own}{w w':World}{a:Act}{env env':Env}{L:Look}{g:Gd}{o:Oper}{u:Up}{p:PS}{d:Nat}

section
variable (hE:EqOk P C)(hw:WOk w0 own0 cx own w)(hL:∀ z,SlotOk w cx own env (tvA a) z (L z))(hg:∀ gs b,g=some (gs,b)→env gs=[.bool b])
 (hod:o.dst=some d)(hd:d<a.tmps.size)(hp:pstep p env=some env')
include hE hw hL hg hod hd hp

theorem Wx {op:BinOp}{neg:Bool}{t t2:TypeId}{x y:Operand}{ti:TI}{cs ds:List CS}(hti:C.ty t=some ti)(hq:C.eqt.any (Nat.beq t)=true)(hop:(op= .eql∧neg=false)∨(op= .neq∧neg=true))(ho:o.op= .binOp op t x y t2)
  (hx:lS L g x= .v true cs)(hy:lS L g y= .v true ds)(hcs:cs.all (· = .s)=true)(hds:ds.all (· = .s)=true)(hpp:p= .eqs d neg ti.zero (cC x) (cC y)):
  nM P cx own w a env o {dst:=some (d,.v false [.s]) } env':=by
 subst hpp
 obtain ⟨vs,s,h1,h2,h3,h4⟩:=opV hL hg hx
 obtain ⟨us,s',k1,k2,k3,k4⟩:=opV hL hg hy
 simp only [pstep] at hp
 split at hp
 ·rename_i hf
  simp only [Bool.and_eq_true] at hf
  simp only [Option.some.injEq] at hp
  subst hp
  have hq':=hE t ti hq hti
  have sc:∀ {cs:List CS} {xs:List D} {vs:List Value} {s:Nat},cs.all (· = .s)=true→All3 (aS w cx own s) cs xs vs→∀ (i:Nat) (d:D) (v:Value),xs[i]? =some d→vs[i]? =some v→Scal d v:=by
   intro cs xs vs s hcs h i d v hd hv
   have hi:i<cs.length:=by rw [h.1];exact (List.getElem?_eq_some_iff.1 hd).1
   have h5:=(h.2.2 i _ d v (List.getElem?_eq_getElem hi) hd hv).2
   have h6:cs[i]= .s:=by simpa using List.all_eq_true.1 hcs _ (List.getElem_mem hi)
   rw [h6] at h5
   exact h5
  have hrun:=hq'.run w _ _ vs us hf.1 hf.2 h4.2.1 k4.2.1 (sc hcs h4) (sc hds k4)
  have h1':a.eval x= .agg vs.toArray:=h1
  have k1':a.eval y= .agg us.toArray:=k1
  refine sG hw hod hd ?_ (.bool _)
  unfold execOp
  rcases hop with ⟨rfl,rfl⟩ | ⟨rfl,rfl⟩
  ·simp only [ho,h1',k1',Sem.run_bind,run_eqGuard_agg w _ t x y _ _ hq'.guard,Result.andThen_ok,run_eql_struct,hrun,Sem.run_pure]
   cases eqDs _ _<;>rfl
  ·simp only [ho,h1',k1',Sem.run_bind,run_eqGuard_agg w _ t x y _ _ hq'.guard,Result.andThen_ok,run_neq_struct,hrun,Sem.run_pure]
   cases eqDs _ _<;>rfl
 ·cases hp

end

theorem aE1 (hC:CfgOk P C)(hE:EqOk P C)(hw:WOk w0 own0 cx own w)(hL:∀ z,SlotOk w cx own env (tvA a) z (L z))(hg:∀ gs b,g=some (gs,b)→env gs=[.bool b])
  (hd:∀ d,o.dst=some d→d<a.tmps.size)(hn:∀ d sh,u.dst=some (d,sh)→sh.names d=false)(hp:pstep p env=some env')(hcl:nJ o.op=false)(hc:Ys C L g o=some (u,p)):xN P cx own w a env o u env':=by
 unfold Ys at hc
 split at hc
 ·rename_i x d ho hod
  exact (BA hw hL hg hod (hd d hod) hn hp (fun w2=>wK (w:=w2) x (.inl ho)) hc).opOk
 ·rename_i x d ho hod
  exact (UO hw hL hg hod (hd d hod) hn hp ho hc).opOk
 ·rename_i c x y d ho hod
  exact (TF hw hL hg hod (hd d hod) hn hp ho hc).opOk
 ·rename_i t d ho hod
  exact (Wi hC hw hod (hd d hod) hn hp ho hc).opOk
 ·rename_i t x d ho hod
  exact (aCw hC hw hL hg hod (hd d hod) hn hp ho hc).opOk
 ·rename_i t ps d ho hod
  exact (Wl hC hw hL hg hod (hd d hod) hn hp ho hc).opOk
 ·rename_i t n ps d ho hod
  exact (aCy hC hw hL hg hod (hd d hod) hn hp ho hc).opOk
 ·rename_i t x d ho hod
  exact (ZH hC hw hL hg hod (hd d hod) hn hp ho hc).opOk
 ·rename_i t ad x ho hod
  exact Wp hC hw hL hg hod hp ho hc
 ·rename_i x d ho hod
  exact (Wf hw hL hg hod (hd d hod) hn hp ho hc).opOk
 ·rename_i op t x y pos d ho hod
  split at hc
  ·cases hc
  rename_i ti hti
  split at hc
  ·rename_i hs
   simp only [Bool.and_eq_true] at hs
   split at hc
   ·rename_i hde
    split at hc
    ·simp only [bS,Option.some.injEq,Prod.mk.injEq] at hc
     obtain ⟨rfl,rfl⟩:=hc
     exact (Lk hw hL hg hod (hd d hod) hp ((hC t ti hti).bool hde) (.inl ⟨rfl,rfl⟩) ho hs.1 hs.2 rfl).opOk
    ·simp only [bS,Option.some.injEq,Prod.mk.injEq] at hc
     obtain ⟨rfl,rfl⟩:=hc
     exact (Lk hw hL hg hod (hd d hod) hp ((hC t ti hti).bool hde) (.inr ⟨rfl,rfl⟩) ho hs.1 hs.2 rfl).opOk
    ·cases hc
   ·simp only [bS,Option.some.injEq,Prod.mk.injEq] at hc
    obtain ⟨rfl,rfl⟩:=hc
    exact (Wd hw hL hg hod (hd d hod) hp ho hs.1 hs.2 rfl).opOk
  ·split at hc
   ·rename_i cs ds hx hy
    split at hc
    ·rename_i hk
     simp only [Bool.and_eq_true] at hk
     split at hc
     ·simp only [bS,Option.some.injEq,Prod.mk.injEq] at hc
      obtain ⟨rfl,rfl⟩:=hc
      exact (Wx hE hw hL hg hod (hd d hod) hp hti hk.2 (.inl ⟨rfl,rfl⟩) ho hx hy hk.1.1 hk.1.2 rfl).opOk
     ·simp only [bS,Option.some.injEq,Prod.mk.injEq] at hc
      obtain ⟨rfl,rfl⟩:=hc
      exact (Wx hE hw hL hg hod (hd d hod) hp hti hk.2 (.inr ⟨rfl,rfl⟩) ho hx hy hk.1.1 hk.1.2 rfl).opOk
     ·cases hc
    ·cases hc
   ·cases hc
 ·rename_i op t x d ho hod
  split at hc
  ·rename_i hx
   simp only [bS,Option.some.injEq,Prod.mk.injEq] at hc
   obtain ⟨rfl,rfl⟩:=hc
   exact (aB3 hw hL hg hod (hd d hod) hp ho hx rfl).opOk
  ·cases hc
 ·rename_i src dst x d ho hod
  by_cases hst:∃ ti:TI,C.ty src=some ti∧ti.desc= .str
  ·obtain ⟨ta,hta,hda⟩:=hst
   unfold Ct at hc
   rw [hta] at hc
   split at hc
   ·rename_i ta' tb hta' htb
    simp only [Option.some.injEq] at hta'
    subst hta'
    rw [hda] at hc
    split at hc
    ·rename_i h _;cases h
    ·rename_i h _;cases h
    ·rename_i e _ hdb
     split at hc
     ·rename_i hk
      simp only [Bool.and_eq_true] at hk
      simp only [bS,Option.some.injEq,Prod.mk.injEq] at hc
      exact (aCz hC hw hL hg hod (hd d hod) hn hp ho hta htb hda hdb hk.1 hk.2 hc.1.symm hc.2.symm).opOk
     ·cases hc
    ·rename_i h _;cases h
    ·cases hc
   ·cases hc
  ·exact (QL hC hw hL hg hod (hd d hod) hn hp ho (fun ti h1 h2=>hst ⟨ti,h1,h2⟩) hc).opOk
 ·rename_i t n c d ho hod
  exact (ZM hC hw hL hg hod (hd d hod) hn hp ho hc).opOk
 ·rename_i t x lo hi mx d ho hod
  exact (We hC hw hL hg hod (hd d hod) hn hp ho hc).opOk
 ·rename_i t x k d ho hod
  exact (DI hC hw hL hg hod (hd d hod) hn hp ho hc).opOk
 ·rename_i t x k d ho hod
  exact (NK hC hw hL hg hod (hd d hod) hn hp ho hc).opOk
 ·rename_i t x i d ho hod
  exact (DJ hC hw hL hg hod (hd d hod) hn hp ho hc).opOk
 ·rename_i t x i d ho hod
  exact (NJ hC hw hL hg hod (hd d hod) hn hp ho hc).opOk
 ·rename_i x k d ho hod
  exact (Hb hC hw hL hg hod (hd d hod) hn hp ho hc).opOk
 ·rename_i f fs cs d ho hod
  exact (ZI hw hL hg hod (hd d hod) hn hp ho hc).opOk
 ·rename_i c d ho hod
  split at hc
  ·rename_i x t hb hargs htys
   split at hc
   ·rename_i ti hti
    split at hc
    ·rename_i e hde
     split at hc
     ·rename_i k hk
      simp only [bS,Option.some.injEq,Prod.mk.injEq] at hc
      obtain ⟨rfl,rfl⟩:=hc
      exact (TG hC hw hL hg hod (hd d hod) hn hp ho hb hargs htys hti hde hk rfl).opOk
     ·cases hc
    ·rename_i hde
     split at hc
     ·rename_i hk
      simp only [bS,Option.some.injEq,Prod.mk.injEq] at hc
      obtain ⟨rfl,rfl⟩:=hc
      exact (TH hC hw hL hg hod (hd d hod) hn hp ho hb hargs htys hti hde hk rfl).opOk
     ·cases hc
    ·cases hc
   ·cases hc
  ·rename_i x y hb hargs
   split at hc
   ·rename_i hk
    simp only [Bool.and_eq_true] at hk
    simp only [bS,Option.some.injEq,Prod.mk.injEq] at hc
    obtain ⟨rfl,rfl⟩:=hc
    exact (aCv hw hL hg hod (hd d hod) hn hp ho hb hargs hk.1 hk.2 rfl).opOk
   ·cases hc
  ·rename_i x y t t2 hb hargs htys
   exact (UQ hC hw hL hg hod (hd d hod) hp ho hb hargs htys hc).opOk
  ·rename_i hb
   rw [ho] at hcl
   simp [nJ,hb] at hcl
  ·rename_i hb
   rw [ho] at hcl
   simp [nJ,hb] at hcl
  ·cases hc
 ·cases hc

end

end
section

def envL (l:List (List D)):Env:=fun k=>l.getD k []
def tvL (l:List Value):Nat→Value:=fun k=>l.getD k undef

def resSh1:PSh→Sh
 | .v a cs=> .v a cs
 | .nbox cs=> .box false cs
 | _=> .dead

def retV:List Value→Value
 | [v]=>v
 | vs=> .tuple vs.toArray

structure ResV (w:World) (cx:Cx) (own:Own) (sig:Sig) (outs:List (List D)) (vals:List Value) (v:Value):Prop where
 len:outs.length=sig.rs.length+(boxPs sig.ps 0).length
 tv:∃ rv:List Value,rv.length=sig.rs.length∧v=retV rv∧(∀ (k:Nat) (p:PSh),sig.rs[k]? =some p→SlotOk w cx own (envL outs) (tvL (rv++(boxPs sig.ps 0).map fun b=>tvL vals b.1)) k (resSh1 p))∧
  (∀ (i:Nat) (b:Nat×List CS),(boxPs sig.ps 0)[i]? =some b→SlotOk w cx own (envL outs) (tvL (rv++(boxPs sig.ps 0).map fun b=>tvL vals b.1)) (sig.rs.length+i) (.box false b.2))

def Lp (sig:Sig):Option (Bool×List CS):=
 match sig.ps with
 | .io ag ws::_=>some (ag,ws)
 | _=>none

def aB4 (w:World)(cx:Cx)(own:Own)(ag:Bool)(ws:List CS)(outs:List (List D))(vals:List Value)(v:Value):Prop:=
 ∃ r c,outs=[[r],c]∧Scal r v∧SlotOk w cx own (fun _=>c) (fun _=>tvL vals 0) 1 (.v ag ws)

def AA (w:World)(cx:Cx)(own:Own)(sig:Sig)(outs:List (List D))(vals:List Value)(v:Value):Prop:=
 match Lp sig with
 | none=>ResV w cx own sig outs vals v
 | some (ag,ws)=>aB4 w cx own ag ws outs vals v

theorem Sig.fine_io {sig:Sig}(h:sig.fine=true):Lp sig=none:=by
 unfold Lp
 split
 ·rename_i ag ws r e
  unfold Sig.fine at h
  rw [e] at h
  simp at h
 ·rfl

structure Wld where
 G:Nat
 P:World→Prop
 size:∀ w,P w→G≤w.heap.size
 keep:∀ (own:Own) (w w':World),Kept own w w'→(∀ g i,own g=some i→G≤g)→P w→P w'

def Ent (P:Program)(f:Nat):Prop:=∃ fn,P.funcs[f]? =some fn∧(fn.name=="runtime.NumGoroutine")=false∧fn.body.isNone=false

def FunOk (P:Program)(W:Wld)(f:Nat)(sig:Sig)(ins outs:List (List D)):Prop:=Ent P f∧
 ∀ (w:World) (own:Own) (cx:Cx) (vals:List Value),W.P w→WOk w own cx own w→(∀ g i,own g=some i→W.G≤g∧i.leaf.1<sig.ps.length)→vals.length=sig.ps.length→ins.length=sig.ps.length→
  Inv (rQ sig) w cx own (envL ins) (tvL vals)→
  Calls P f vals.toArray w (fun e w'=>∃ v own',e= .returned v∧WOk w own cx own' w'∧AA w' cx own' sig outs vals v)

end
section

def dU (hs:List (Leaf×Leaf))(l:Leaf):Option Leaf:=(hs.find? fun p=>gP p.1 l).map (·.2)

def dC (own:Own)(hs:List (Leaf×Leaf)):Own:=fun g=>(own g).bind fun i=>(dU hs i.leaf).map fun l=>{i with leaf:=l }

def uU (aas:List Aff)(l:Leaf):Bool:=aas.any fun a=>gP (a.h,a.i+1) l&&(match a.to with | .r=>true | _=>false)

def BT (own:Own)(aas:List Aff):Own:=fun g=>(own g).bind fun i=>if uU aas i.leaf then none else some i

def BE (cx:Cx)(own:Own)(n:Nat)(A:CA)(bres:Bool):Cx where
 S1:=fun g o=>g<n∧BT own A.aas g=none∧(cx.S1 g o∨cx.N g)
 S2:=fun g o=>g<n∧¬claimed (dC own A.hs) g o∧(bres=true→¬claimed (BT own A.aas) g o∧(cx.S2 g o∨cx.N g))
 N:=fun g=>n≤g∨dC own A.hs g≠none

theorem fM {hs:List (Leaf×Leaf)}{l l':Leaf}(h:dU hs l=some l'):(l,l')∈hs:=by
 unfold dU at h
 cases hf:hs.find? fun p=>gP p.1 l with
 | none=>rw [hf] at h;cases h
 | some p=>
  rw [hf] at h
  simp only [Option.map_some,Option.some.injEq] at h
  have h1:=List.mem_of_find?_eq_some hf
  have h2:=List.find?_some hf
  have h3:p.1=l:=bP.1 h2
  rw [←h3,←h]
  exact h1

theorem vR {α:Type}(f:α→Leaf):∀ {l:List α},eT (l.map f)=true→∀ {a b:α},a∈l→b∈l→f a=f b→a=b
 | [],_,a,b,ha,_,_=>by simp at ha
 | c::r,h,a,b,ha,hb,he=>by
  simp only [List.map_cons,eT,Bool.and_eq_true,Bool.not_eq_true'] at h
  have key:∀ x∈r,f x≠f c:=fun x hx e=>by
   have:=List.any_eq_false.1 h.1 (f x) (List.mem_map.2 ⟨x,hx,rfl⟩)
   exact this (bP.2 e.symm)
  rcases List.mem_cons.1 ha with ea | ha'
  ·rcases List.mem_cons.1 hb with eb | hb'
   ·rw [ea,eb]
   ·exact absurd (by rw [←he,ea]) (key b hb')
  ·rcases List.mem_cons.1 hb with eb | hb'
   ·exact absurd (by rw [he,eb]) (key a ha')
   ·exact vR f h.2 ha' hb' he

theorem mX {hs:List (Leaf×Leaf)}(hd:eT (zF hs)=true){l l':Leaf}(h:(l,l')∈hs):dU hs l=some l':=by
 cases hm:dU hs l with
 | none=>
  unfold dU at hm
  simp only [Option.map_eq_none_iff,List.find?_eq_none] at hm
  exact absurd (bP.2 rfl) (hm _ h)
 | some l2=>
  have:=fM hm
  have:=vR (fun p:Leaf×Leaf=>p.1) hd this h rfl
  rw [Prod.mk.injEq] at this
  rw [this.2]

theorem mY {own:Own}{hs:List (Leaf×Leaf)}{g:Nat}{j:OI}(h:dC own hs g=some j):∃ i,own g=some i∧dU hs i.leaf=some j.leaf∧j={i with leaf:=j.leaf }:=by
 unfold dC at h
 cases ho:own g with
 | none=>rw [ho] at h;cases h
 | some i=>
  rw [ho] at h
  simp only [Option.bind_some] at h
  cases hm:dU hs i.leaf with
  | none=>rw [hm] at h;cases h
  | some l=>
   rw [hm] at h
   simp only [Option.map_some,Option.some.injEq] at h
   subst h
   exact ⟨i,rfl,hm,rfl⟩

def gQ (A:CA):Prop:=∀ p∈A.hs,(∃ a∈A.aas,p.1=(a.h,a.i+1)∧a.to≠ .r)∨(p.1.2=0∧∃ b∈A.bs,b.1=p.1.1)

section
variable {w0:World}{own0:Own}{cx:Cx}{own:Own}{w:World}{A:CA}{bres:Bool}

theorem uV (hnd:bE A.aas=true)(hh:gQ A){l:Leaf}(hf:uU A.aas l=true):dU A.hs l=none:=by
 cases hm:dU A.hs l with
 | none=>rfl
 | some l'=>
  exfalso
  obtain ⟨a,ha,hr⟩:=List.any_eq_true.1 hf
  simp only [Bool.and_eq_true] at hr
  have hl:(a.h,a.i+1)=l:=bP.1 hr.1
  rcases hh _ (fM hm) with ⟨b,hb,h1,h2⟩ | ⟨h1,_⟩
  ·simp only at h1
   rw [←hl] at h1
   simp only [Prod.mk.injEq,Nat.add_right_cancel_iff] at h1
   rcases sI hnd ha hb with rfl | hne
   ·have:=hr.2
    split at this
    ·rename_i e;exact h2 e
    ·cases this
   ·exact hne.1 h1
  ·simp only at h1
   rw [←hl] at h1
   simp at h1

theorem nP (hnd:bE A.aas=true)(hh:gQ A){g:Nat}(h:BT own A.aas g=none):dC own A.hs g=none:=by
 unfold BT at h
 unfold dC
 cases ho:own g with
 | none=>rfl
 | some i=>
  rw [ho] at h
  simp only [Option.bind_some] at h ⊢
  split at h
  ·rename_i hf
   rw [uV hnd hh hf];rfl
  ·cases h

theorem kY {g o:Nat}(h:claimed (dC own A.hs) g o):claimed own g o:=by
 obtain ⟨j,b,h1,h2,h3⟩:=h
 obtain ⟨i,h4,_,h5⟩:=mY h1
 rw [h5] at h2
 exact ⟨i,b,h4,h2,h3⟩

theorem Kh {g:Nat}{aas:List Aff}(h:own g=none):BT own aas g=none:=by
 unfold BT;rw [h];rfl

theorem Lq {g o:Nat}{aas:List Aff}(h:claimed (BT own aas) g o):claimed own g o:=by
 obtain ⟨j,b,h1,h2,h3⟩:=h
 unfold BT at h1
 cases ho:own g with
 | none=>rw [ho] at h1;cases h1
 | some i=>
  rw [ho] at h1
  simp only [Option.bind_some] at h1
  split at h1
  ·cases h1
  ·simp only [Option.some.injEq] at h1
   subst h1
   exact ⟨i,b,ho,h2,h3⟩

theorem Hh (hw:WOk w0 own0 cx own w)(hnd:bE A.aas=true)(hh:gQ A)(hdst:eT (A.hs.map (·.2))=true):
  WOk w (dC own A.hs) (BE cx own w.heap.size A bres) (dC own A.hs) w where
 kept:=Kept.refl _ _
 dom:=fun g j h=>by
  obtain ⟨i,h1,_⟩:=mY h
  exact ⟨(hw.dom g i h1).1,.inr (by rw [h];simp)⟩
 n:=fun g=>Iff.rfl
 s1:=fun g o h=>by
  obtain ⟨h1,h2,h3⟩:=h
  refine ⟨h1,aW (nP hnd hh h2),fun _=>⟨aW h2,h3.imp (hw.s1 g o) id⟩⟩
 s2:=fun g o h=>⟨h.1,h.2.1⟩
 cl:=fun g o _ h=>h
 inj:=fun g g' i j h h' hl hp=>by
  obtain ⟨i0,h1,h2,h3⟩:=mY h
  obtain ⟨j0,k1,k2,k3⟩:=mY h'
  have:=vR (fun p:Leaf×Leaf=>p.2) hdst (fM h2) (fM k2) hl
  rw [Prod.mk.injEq] at this
  rw [h3,k3] at hp
  exact hw.inj g g' i0 j0 h1 k1 this.1 hp

end

end
section

section
variable {w0:World}{own0:Own}{cx:Cx}{own:Own}{w:World}{A:CA}{bres:Bool}

theorem DR (hnd:bE A.aas=true)(hh:gQ A){x:D}{v:Value}(h:Rep w (RS cx own) x v):Rep w (RS (BE cx own w.heap.size A bres) (dC own A.hs)) x v:=
 h.in_ (fun _ _ _ _ h=>h) (fun _ cur _ h=>⟨cur,h,rfl⟩) (fun g o u hs hc=>⟨nP hnd hh (Kh hs.1),.inl ⟨nL hc,Kh hs.1,hs.2⟩⟩)

theorem Lr {x:D}{v:Value}(h:Rep w (BS cx own) x v):Rep w (BS (BE cx own w.heap.size A bres) (dC own A.hs)) x v:=
 h.in_ (fun _ _ _ _ h=>h) (fun _ cur _ h=>⟨cur,h,rfl⟩) (fun g o u hs hc=>⟨fun h'=>hs.1 (kY h'),.inl ⟨nL hc,fun h'=>hs.1 (kY h'),fun _=>⟨fun h'=>hs.1 (Lq h'),hs.2⟩⟩⟩)

theorem FH (hw:WOk w0 own0 cx own w)(hnd:bE A.aas=true)(hh:gQ A){h k:Nat}{m:Bool}{f:Fz}{x:D}{v:Value}(ho:OwnRep w cx own (h,k+1) m f x v)(hf:uU A.aas (h,k+1)=true):
  Rep w (RS (BE cx own w.heap.size A bres) (dC own A.hs)) x v:=by
 have key:∀ {g:Nat} {i:OI} (o:Nat),own g=some i→i.leaf=(h,k+1)→RS (BE cx own w.heap.size A bres) (dC own A.hs) g o:=fun {g i} o hi hl=>by
  have h1n:BT own A.aas g=none:=by
   unfold BT;rw [hi];simp [hl,hf]
  exact ⟨nP hnd hh h1n,.inl ⟨(hw.dom g _ hi).1,h1n,.inr (hw.dom g _ hi).2⟩⟩
 cases ho with
 | nil=>exact .nil _ _
 | sl xs g cap cur T fr vs h1 h2 h3 h4 h5 h6 h7 h8 h9 h10=>
  refine .sl xs g 0 f.sz cap vs h3 h8 (fun i x j d hx hj=>by rw [Nat.zero_add,bM h1];exact h9 i x j d hx hj) (fun i x j d hx hj=>key _ h2 rfl) (fun i x j d hx hj=>?_)
  have h11:=h10 i x j d hx hj
  obtain ⟨sz,u⟩:=f
  cases u with
  | false=>exact DR hnd hh h11
  | true=>exact InRep.rep h11 (fun g i o hi hl _=>⟨key o hi hl,rfl⟩)
 | ip xs v hf h1=>exact InRep.rep h1 (fun g i o hi hl _=>⟨key o hi hl,rfl⟩)

theorem EO (hnd:bE A.aas=true)(hh:gQ A){l l':Leaf}(hm:dU A.hs l=some l'){m:Bool}{f:Fz}{x:D}{v:Value}(ho:OwnRep w cx own l m f x v):
  OwnRep w (BE cx own w.heap.size A bres) (dC own A.hs) l' m f x v:=by
 cases ho with
 | nil=>exact .nil
 | sl xs g cap cur T fr vs h1 h2 h3 h4 h5 h6 h7 h8 h9 h10=>
  refine .sl xs g cap cur T fr vs h1 ?_ h3 h4 h5 h6 h7 h8 h9 (fun i x j d hx hj=>?_)
  ·unfold dC;rw [h2];simp [hm]
  ·have h11:=h10 i x j d hx hj
   obtain ⟨sz,u⟩:=f
   cases u with
   | false=>exact DR hnd hh h11
   | true=>exact InRep.keep h11 (fun g i hi hl=>⟨by unfold dC;rw [hi];simp [hl,hm],rfl⟩)
 | ip xs v hf h1=>exact .ip xs v hf (InRep.keep h1 (fun g i hi hl=>⟨by unfold dC;rw [hi];simp [hl,hm],rfl⟩))

theorem Ki (hnd:bE A.aas=true)(hh:gQ A){l:Leaf}(hm:dU A.hs l=none){m:Bool}{f:Fz}{x:D}{v:Value}(hw:WOk w0 own0 cx own w)(ho:OwnRep w cx own l m f x v):
  Rep w (BS (BE cx own w.heap.size A false) (dC own A.hs)) x v:=by
 have key:∀ {g:Nat} {i:OI} (o:Nat),own g=some i→i.leaf=l→BS (BE cx own w.heap.size A false) (dC own A.hs) g o:=fun {g i} o hi hl=>by
  have hn:dC own A.hs g=none:=by unfold dC;rw [hi];simp [hl,hm]
  exact ⟨aW hn,.inl ⟨(hw.dom g _ hi).1,aW hn,fun h=>by cases h⟩⟩
 cases ho with
 | nil=>exact .nil _ _
 | sl xs g cap cur T fr vs h1 h2 h3 h4 h5 h6 h7 h8 h9 h10=>
  refine .sl xs g 0 f.sz cap vs h3 h8 (fun i x j d hx hj=>by rw [Nat.zero_add,bM h1];exact h9 i x j d hx hj) (fun i x j d hx hj=>key _ h2 rfl) (fun i x j d hx hj=>?_)
  have h11:=h10 i x j d hx hj
  obtain ⟨sz,u⟩:=f
  cases u with
  | true=>exact InRep.rep h11 (fun g i o hi hl _=>⟨key o hi hl,rfl⟩)
  | false=>
   refine Rep.sub (DR (bres:=false) hnd hh h11) (fun g o=>FF (fun g o hs=>?_))
   exact ⟨hs.1,aW (nP hnd hh hs.2.1),fun h=>by cases h⟩
 | ip xs v hf h1=>exact InRep.rep h1 (fun g i o hi hl _=>⟨key o hi hl,rfl⟩)

theorem ZO (hw:WOk w0 own0 cx own w)(hnd:bE A.aas=true)(hh:gQ A)(hds:eT (zF A.hs)=true)(hrd:A.rd.all (fun l=> !((zF A.hs).any (gP l)))=true){s kp i:Nat}{c want:CS}{x:D}{v:Value}{a1:List Aff}{h1:List (Leaf×Leaf)}{r1:List Leaf}
  (h:rX bres s kp i c want=some (a1,h1,r1))(ha:∀ y∈a1,y∈A.aas)(hhs:∀ y∈h1,y∈A.hs)(hr:∀ y∈r1,y∈A.rd)(hc:aS w cx own s i c x v):
  aS w (BE cx own w.heap.size A bres) (dC own A.hs) kp i want x v:=by
 refine ⟨hc.1,?_⟩
 have h2:=hc.2
 have hread:∀ {l:Leaf},l∈A.rd→dU A.hs l=none:=by
  intro l hl
  cases hm:dU A.hs l with
  | none=>rfl
  | some l'=>
   have h3:=List.all_eq_true.1 hrd l hl
   simp only [Bool.not_eq_true'] at h3
   have:=List.any_eq_false.1 h3 l (List.mem_map.2 ⟨_,fM hm,rfl⟩)
   exact absurd (bP.2 rfl) this
 have hfro:∀ {h k:Nat} {m:Bool} {f:Fz},⟨h,k,m,f,.r,.r⟩∈A.aas→uU A.aas (h,k+1)=true:=fun hm=>
  List.any_eq_true.2 ⟨_,hm,by simp [gP]⟩
 cases want with
 | n=>
  cases c<;>simp only [rX,reduceCtorEq] at h
  exact h2
 | al _ _ _ _=>simp [rX] at h
 | x=>trivial
 | s=>
  cases c<;>simp only [rX,reduceCtorEq] at h
  exact h2
 | b=>
  have hbs:mS c=true→Rep w (BS (BE cx own w.heap.size A bres) (dC own A.hs)) x v:=fun hb=>Lr (hc.bs (fun g i hi=>(hw.dom g i hi).2) hw.s1 hb)
  cases c with
  | n=>exact hbs rfl
  | r=>exact hbs rfl
  | b=>exact hbs rfl
  | s=>simp [rX] at h
  | x=>simp [rX] at h
  | o m f=>
   cases m with
   | false=>exact hbs rfl
   | true=>
    simp only [rX] at h
    cases bres with
    | true=>cases h
    | false=>
     simp only [Option.some.injEq,Prod.mk.injEq] at h
     obtain ⟨_,_,rfl⟩:=h
     exact Ki hnd hh (hread (hr _ (List.mem_singleton.2 rfl))) hw h2
  | al hh' k m f=>
   cases m with
   | false=>exact hbs rfl
   | true=>
    simp only [rX] at h
    cases bres with
    | true=>cases h
    | false=>
     simp only [Option.some.injEq,Prod.mk.injEq] at h
     obtain ⟨_,_,rfl⟩:=h
     exact Ki hnd hh (hread (hr _ (List.mem_singleton.2 rfl))) hw h2
 | r=>
  cases c with
  | n=>obtain ⟨e1,e2⟩:=h2;rw [e1,e2];exact .nil _ _
  | r=>exact DR hnd hh h2
  | o m f=>
   simp only [rX,Option.some.injEq,Prod.mk.injEq] at h
   obtain ⟨rfl,_,_⟩:=h
   exact FH hw hnd hh h2 (hfro (ha _ (List.mem_singleton.2 rfl)))
  | al hh' k m f=>
   simp only [rX,Option.some.injEq,Prod.mk.injEq] at h
   obtain ⟨rfl,_,_⟩:=h
   exact FH hw hnd hh h2 (hfro (ha _ (List.mem_singleton.2 rfl)))
  | s=>simp [rX] at h
  | b=>simp [rX] at h
  | x=>simp [rX] at h
 | o m f=>
  cases c with
  | n=>obtain ⟨e1,e2⟩:=h2;rw [e1,e2];exact .nil
  | o m' f'=>
   simp only [rX] at h
   split at h
   ·rename_i hb
    obtain ⟨rfl,rfl⟩:=Wb hb
    simp only [Option.some.injEq,Prod.mk.injEq] at h
    obtain ⟨_,rfl,_⟩:=h
    exact EO hnd hh (mX hds (hhs _ (List.mem_singleton.2 rfl))) h2
   ·cases h
  | al hh' k m' f'=>
   simp only [rX] at h
   split at h
   ·rename_i hb
    obtain ⟨rfl,rfl⟩:=Wb hb
    simp only [Option.some.injEq,Prod.mk.injEq] at h
    obtain ⟨_,rfl,_⟩:=h
    exact EO hnd hh (mX hds (hhs _ (List.mem_singleton.2 rfl))) h2
   ·cases h
  | s=>simp [rX] at h
  | b=>simp [rX] at h
  | r=>simp [rX] at h
  | x=>simp [rX] at h

end

end
section

section
variable {w0:World}{own0:Own}{cx:Cx}{own:Own}{w:World}{A:CA}{bres:Bool}

theorem FI (hw:WOk w0 own0 cx own w)(hnd:bE A.aas=true)(hh:gQ A)(hds:eT (zF A.hs)=true)(hrd:A.rd.all (fun l=> !((zF A.hs).any (gP l)))=true){s kp:Nat}{ds:List D}{vs:List Value}:
  ∀ {cs ws:List CS} {i:Nat} {aas:List Aff} {hs:List (Leaf×Leaf)} {rd:List Leaf},fE bres s kp cs ws i=some (aas,hs,rd)→(∀ y∈aas,y∈A.aas)→(∀ y∈hs,y∈A.hs)→(∀ y∈rd,y∈A.rd)→
   (∀ (k:Nat) (c:CS) (x:D) (v:Value),cs[k]? =some c→ds[i+k]? =some x→vs[i+k]? =some v→aS w cx own s (i+k) c x v)→
   ws.length=cs.length∧∀ (k:Nat) (c:CS) (x:D) (v:Value),ws[k]? =some c→ds[i+k]? =some x→vs[i+k]? =some v→aS w (BE cx own w.heap.size A bres) (dC own A.hs) kp (i+k) c x v
 | [],[],i,aas,hs,rd,_,_,_,_,_=>⟨rfl,fun k c x v h=>by simp at h⟩
 | [],_::_,_,_,_,_,h,_,_,_,_=>by simp [fE] at h
 | _::_,[],_,_,_,_,h,_,_,_,_=>by simp [fE] at h
 | c0::r,w0'::ws,i,aas,hs,rd,h,h1,h2,h3,hc=>by
  simp only [fE] at h
  split at h
  ·rename_i a1 b1 r1 a2 b2 r2 e1 e2
   simp only [Option.some.injEq,Prod.mk.injEq] at h
   obtain ⟨rfl,rfl,rfl⟩:=h
   obtain ⟨k1,k2⟩:=FI hw hnd hh hds hrd e2 (fun y hy=>h1 y (List.mem_append_right _ hy)) (fun y hy=>h2 y (List.mem_append_right _ hy)) (fun y hy=>h3 y (List.mem_append_right _ hy)) (fun k c x v hk hx hv=>by
    have:=hc (k+1) c x v (by simpa using hk) (by rw [←hx];congr 1;omega) (by rw [←hv];congr 1;omega)
    rwa [show i+(k+1)=i+1+k from by omega] at this)
   refine ⟨by simp [k1],fun k c x v hk hx hv=>?_⟩
   cases k with
   | zero=>
    simp only [List.getElem?_cons_zero,Option.some.injEq] at hk
    subst hk
    exact ZO hw hnd hh hds hrd e1 (fun y hy=>h1 y (List.mem_append_left _ hy)) (fun y hy=>h2 y (List.mem_append_left _ hy)) (fun y hy=>h3 y (List.mem_append_left _ hy)) (hc 0 c0 x v rfl hx hv)
   | succ k=>
    have:=k2 k c x v (by simpa using hk) (by rw [←hx];congr 1;omega) (by rw [←hv];congr 1;omega)
    rwa [show i+1+k=i+(k+1) from by omega] at this
  ·cases h

theorem FJ {b kp:Nat}:∀ {cs:List CS} {j k:Nat} {m:Bool} {f:Fz},cs[k]? =some (.o m f)→((b,j+k+1),(kp,j+k+1))∈kW b kp cs j
 | [],j,k,m,f,h=>by simp at h
 | c::r,j,0,m,f,h=>by
  simp only [List.getElem?_cons_zero,Option.some.injEq] at h
  subst h
  exact List.mem_cons_self ..
 | c::r,j,k+1,m,f,h=>by
  have:=FJ (b:=b) (kp:=kp) (cs:=r) (j:=j+1) (k:=k) (by simpa using h)
  rw [show j+1+k+1=j+(k+1)+1 from by omega] at this
  cases c<;>simp only [kW]<;>first | exact this | exact List.mem_cons_of_mem _ this

theorem AB:∀ {cs ws:List CS},Gq cs ws=true→ws.length=cs.length∧∀ (k:Nat) (c w':CS),cs[k]? =some c→ws[k]? =some w'→xE c w'=true
 | [],[],_=>⟨rfl,fun k c w' h=>by simp at h⟩
 | [],_::_,h=>by cases h
 | _::_,[],h=>by cases h
 | c::r,w'::ws,h=>by
  simp only [Gq,Bool.and_eq_true] at h
  obtain ⟨h1,h2⟩:=AB h.2
  refine ⟨by simp [h1],fun k c' w'' hc hw=>?_⟩
  cases k with
  | zero=>
   simp only [List.getElem?_cons_zero,Option.some.injEq] at hc hw
   subst hc;subst hw
   exact h.1
  | succ k=>exact h2 k c' w'' (by simpa using hc) (by simpa using hw)

theorem UR (hw:WOk w0 own0 cx own w)(hnd:bE A.aas=true)(hh:gQ A)(hds:eT (zF A.hs)=true){b kp j:Nat}{c want:CS}{x:D}{v:Value}(h:xE c want=true)(hhs:∀ m f,c= .o m f→((b,j+1),(kp,j+1))∈A.hs)(hc:aS w cx own b j c x v):
  aS w (BE cx own w.heap.size A bres) (dC own A.hs) kp j want x v:=by
 refine ⟨hc.1,?_⟩
 have h2:=hc.2
 cases want with
 | n=>simp [xE] at h
 | al _ _ _ _=>simp [xE] at h
 | x=>trivial
 | s=>cases c<;>simp only [xE,reduceCtorEq,Bool.false_eq_true] at h;exact h2
 | r=>
  cases c<;>simp only [xE,reduceCtorEq,Bool.false_eq_true] at h
  ·obtain ⟨e1,e2⟩:=h2;rw [e1,e2];exact .nil _ _
  ·exact DR hnd hh h2
 | b=>
  cases c<;>simp only [xE,reduceCtorEq,Bool.false_eq_true] at h
  ·obtain ⟨e1,e2⟩:=h2;rw [e1,e2];exact .nil _ _
  ·exact Lr (Rep.sub h2 (fun g o=>FF hw.s1))
  ·exact Lr h2
 | o m f=>
  cases c<;>simp only [xE,reduceCtorEq,Bool.false_eq_true] at h
  ·obtain ⟨e1,e2⟩:=h2;rw [e1,e2];exact .nil
  ·obtain ⟨rfl,rfl⟩:=Wb h
   exact EO hnd hh (mX hds (hhs _ _ rfl)) h2

end

end
section

section
variable {w0:World}{own0:Own}{cx:Cx}{own:Own}{w:World}{A:CA}{bres:Bool}{a:Act}{env:Env}{L:Look}{g:Gd}

structure CA.Sub (a b:CA):Prop where
 aas:∀ y∈a.aas,y∈b.aas
 hs:∀ y∈a.hs,y∈b.hs
 rd:∀ y∈a.rd,y∈b.rd
 deps:∀ y∈a.deps,y∈b.deps

theorem NW (hL:∀ z,SlotOk w cx own env (tvA a) z (L z))(hg:∀ gs b,g=some (gs,b)→env gs=[.bool b]){x:Operand}{b:Nat}(h:boxOf L g x=some b){ro:Bool}{cs:List CS}(hb:L b= .box ro cs):a.eval x=tvA a b:=by
 unfold boxOf at h
 split at h
 ·rename_i s
  have hs:=eV hL hg s
  split at h
  ·simp only [Option.some.injEq] at h
   subst h
   rfl
  ·rename_i b' he
   simp only [Option.some.injEq] at h
   subst h
   rw [he] at hs
   obtain ⟨gg,h1,h2⟩:=hs
   exact h2.trans h1.symm
  ·cases h
 ·cases h

theorem TN (hw:WOk w0 own0 cx own w)(hL:∀ z,SlotOk w cx own env (tvA a) z (L z))(hg:∀ gs b,g=some (gs,b)→env gs=[.bool b])
  (hnd:bE A.aas=true)(hh:gQ A)(hds:eT (zF A.hs)=true)(hrd:A.rd.all (fun l=> !((zF A.hs).any (gP l)))=true)(hdp:A.deps.all (fun x=> !((zF A.hs).any (fun l=>Nat.beq l.1 x)))=true)
  {x:Operand}{p:PSh}{kp:Nat}{c:CA}(h:Cu L g bres x p kp=some c)(hs:c.Sub A){E:Env}{T:Nat→Value}:
  ∃ o,c.os=[o]∧(E kp=o.get env→T kp=a.eval x→SlotOk w (BE cx own w.heap.size A bres) (dC own A.hs) E T kp (xH p)):=by
 unfold Cu at h
 split at h
 ·rename_i ag ws
  split at h
  ·rename_i v
   split at h
   ·rename_i hk
    simp only [Option.some.injEq] at h
    subst h
    refine ⟨_,rfl,fun hE hT=>?_⟩
    unfold NE at hk
    split at hk
    ·rename_i _ _ _ w' hcv
     have hcc:=wI (w:=w) (cx:=cx) (own:=own) hcv 0 0
     refine ⟨[v],hT,fun _=>rfl,by rw [hE];rfl,by rw [hE];rfl,fun i c' y u hc' hy hu=>?_⟩
     rw [hE] at hy
     cases i with
     | succ i=>simp at hc'
     | zero=>
      simp only [List.getElem?_cons_zero,Option.some.injEq] at hc' hu
      simp only [cC,Opd.get,List.getElem?_cons_zero,Option.some.injEq] at hy
      subst hc';subst hu;subst hy
      refine ⟨hcc.1,?_⟩
      have h2:=hcc.2
      split at hk
      ·rename_i e1;rw [e1] at h2;exact h2
      ·rename_i e1;rw [e1] at h2;obtain ⟨q1,q2⟩:=h2;rw [q1,q2];exact .nil _ _
      ·rename_i e1;rw [e1] at h2;obtain ⟨q1,q2⟩:=h2;rw [q1,q2];exact .nil _ _
      ·rename_i e1;rw [e1] at h2;obtain ⟨q1,q2⟩:=h2;rw [q1,q2];exact .nil
      ·rename_i e1;rw [e1] at h2;exact h2
      ·cases hk
    ·cases hk
   ·cases h
  ·rename_i s
   have hsl:=eV hL hg s
   split at h
   ·rename_i a' cs he
    rw [he] at hsl
    split at h
    ·rename_i hb
     split at h
     ·rename_i aas hs' rd hac
      simp only [Option.some.injEq] at h
      subst h
      refine ⟨_,rfl,fun hE hT=>?_⟩
      obtain ⟨vs,q1,q2,q3⟩:=hsl
      have hag:ag=a':=by cases ag<;>cases a'<;>first | rfl | cases hb
      subst hag
      obtain ⟨k1,k2⟩:=FI (ds:=env s) (vs:=vs) hw hnd hh hds hrd hac hs.aas hs.hs hs.rd (fun k c x v hc hx hv=>by
       rw [Nat.zero_add] at hx hv ⊢
       exact q3.2.2 k c x v hc hx hv)
      refine ⟨vs,hT.trans q1,q2,by rw [hE];exact k1.trans q3.1,by rw [hE];exact q3.2.1,fun k c y v hc hy hv=>?_⟩
      rw [hE] at hy
      have:=k2 k c y v hc (by rw [Nat.zero_add];exact hy) (by rw [Nat.zero_add];exact hv)
      rwa [Nat.zero_add] at this
     ·cases h
    ·cases h
   ·cases h
  ·cases h
 ·rename_i ws
  split at h
  ·rename_i b hbo
   split at h
   ·rename_i cs hLb
    split at h
    ·rename_i hbf
     simp only [Option.some.injEq] at h
     subst h
     refine ⟨_,rfl,fun hE hT=>?_⟩
     have hsl:=hL b
     rw [hLb] at hsl
     obtain ⟨gg,cur,Ty,q1,q2,q3,q4⟩:=hsl
     simp only [Bool.false_eq_true,if_false] at q4
     obtain ⟨k1,k2⟩:=AB hbf
     refine ⟨gg,cur,Ty,hT.trans ((NW hL hg hbo hLb).trans q1),q2,?_,?_⟩
     ·refine ⟨by rw [hE];exact k1.trans q3.1,by rw [hE];exact q3.2.1,fun j c y v hc hy hv=>?_⟩
      rw [hE] at hy
      have hy':(env b)[j]? =some y:=hy
      have hj:j<cs.length:=by rw [q3.1];exact (List.getElem?_eq_some_iff.1 hy').1
      refine UR hw hnd hh hds (k2 j _ c (List.getElem?_eq_getElem hj) hc) (fun m f hcf=>?_) (q3.2.2 j _ y v (List.getElem?_eq_getElem hj) hy' hv)
      have:=FJ (b:=b) (kp:=kp) (cs:=cs) (j:=0) (k:=j) (by rw [List.getElem?_eq_getElem hj,hcf])
      rw [Nat.zero_add] at this
      exact hs.hs _ (List.mem_cons_of_mem _ this)
     ·simp only [Bool.false_eq_true,if_false]
      unfold dC
      rw [q4]
      simp [mX hds (hs.hs _ (List.mem_cons_self ..))]
    ·cases h
   ·cases h
  ·cases h
 ·rename_i f
  split at h
  ·rename_i f' deps hos
   split at h
   ·rename_i hff
    simp only [Option.some.injEq] at h
    subst h
    have hf:f=f':=Nat.eq_of_beq_eq_true hff
    subst hf
    refine ⟨_,rfl,fun hE hT=>?_⟩
    have hlow:∀ {dps:List Nat} {d:D} {v:Value},(∀ y∈dps,y∈A.deps)→Rep w (HV cx own dps) d v→Rep w (HV (BE cx own w.heap.size A false) (dC own A.hs) []) d v:=by
     intro dps d v hsub hr
     refine hr.in_ (fun _ _ _ _ h=>h) (fun _ cur _ h=>⟨cur,h,rfl⟩) (fun g o u hs hc=>?_)
     rcases hs with hs | ⟨i,hi,hd⟩
     ·exact .inl ⟨fun h'=>hs.1 (kY h'),.inl ⟨nL hc,fun h'=>hs.1 (kY h'),fun h=>by cases h⟩⟩
     ·have hn:dC own A.hs g=none:=by
       unfold dC
       rw [hi]
       cases hm:dU A.hs i.leaf with
       | none=>simp [hm]
       | some l'=>
        have h3:=List.all_eq_true.1 hdp _ (hsub _ hd)
        simp only [Bool.not_eq_true'] at h3
        have:=List.any_eq_false.1 h3 i.leaf (List.mem_map.2 ⟨_,fM hm,rfl⟩)
        exact absurd (Nat.beq_refl _) this
      exact .inl ⟨aW hn,.inl ⟨nL hc,aW hn,fun h=>by cases h⟩⟩
    cases x with
    | tmp s=>
     have hsl:=eV hL hg s
     have hos':sP L g s= .clo f deps:=hos
     rw [hos'] at hsl
     obtain ⟨fs,cs,q1,q2⟩:=hsl
     refine ⟨fs,cs,hE.trans q1,?_⟩
     rw [hT]
     exact hlow hs.deps q2
    | const v=>simp only [lS] at hos;split at hos<;>cases hos
    | global=>simp [lS] at hos
    | func f'=>
     simp only [lS,Sh.clo.injEq] at hos
     obtain ⟨rfl,rfl⟩:=hos
     refine ⟨[],[],hE,?_⟩
     rw [hT]
     exact .fn f' [] [] [] [] (fun _ _=>undef) rfl rfl (fun i p vs h=>by simp at h) (fun i p vs j d v h=>by simp at h) (fun i c g h=>by simp at h) (fun i c g j d h=>by simp at h) (fun i c g j d h=>by simp at h)
   ·cases h
  ·cases h
 ·cases h

end

end
section

section
variable {bres:Bool}{L:Look}{g:Gd}

theorem ZP {x:Operand}{p:PSh}{kp:Nat}{c:CA}(h:Cu L g bres x p kp=some c):∃ o,c.os=[o]:=by
  unfold Cu at h
  repeat' (split at h)
  all_goals first
    | (cases h;done)
    | (simp only [Option.some.injEq] at h;subst h;exact ⟨_,rfl⟩)

theorem US {s kp i:Nat}{c w:CS}{a1:List Aff}{h1:List (Leaf×Leaf)}{r1:List Leaf}(h:rX bres s kp i c w=some (a1,h1,r1)):∀ p∈h1,∃ a∈a1,p.1=(a.h,a.i+1)∧a.to≠ .r:=by
  unfold rX at h
  repeat' (split at h)
  all_goals first
    | (cases h;done)
    | (simp only [Option.some.injEq,Prod.mk.injEq] at h
       obtain ⟨rfl,rfl,rfl⟩:=h
       intro p hp
       first
         | (simp at hp;done)
         | (simp only [List.mem_singleton] at hp
            subst hp
            refine ⟨_,List.mem_singleton.2 rfl,rfl,?_⟩
            first
              | (dsimp only;split<;>simp;done)
              | simp))

theorem Bh {s kp:Nat}:∀ {cs ws:List CS} {i:Nat} {aas:List Aff} {hs:List (Leaf×Leaf)} {rd:List Leaf},fE bres s kp cs ws i=some (aas,hs,rd)→∀ p∈hs,∃ a∈aas,p.1=(a.h,a.i+1)∧a.to≠ .r
  | [],[],i,aas,hs,rd,h=>by
    simp only [fE,Option.some.injEq,Prod.mk.injEq] at h
    obtain ⟨rfl,rfl,rfl⟩:=h
    intro p hp;simp at hp
  | [],_::_,_,_,_,_,h=>by simp [fE] at h
  | _::_,[],_,_,_,_,h=>by simp [fE] at h
  | c::r,w::ws,i,aas,hs,rd,h=>by
    simp only [fE] at h
    split at h
    · rename_i a1 b1 r1 a2 b2 r2 e1 e2
      simp only [Option.some.injEq,Prod.mk.injEq] at h
      obtain ⟨rfl,rfl,rfl⟩:=h
      intro p hp
      rcases List.mem_append.1 hp with hp | hp
      · obtain ⟨a,ha,h2⟩:=US e1 p hp
        exact ⟨a,List.mem_append_left _ ha,h2⟩
      · obtain ⟨a,ha,h2⟩:=Bh e2 p hp
        exact ⟨a,List.mem_append_right _ ha,h2⟩
    · cases h

theorem FK {b kp:Nat}:∀ {cs:List CS} {j:Nat},∀ p∈kW b kp cs j,∃ a∈xF b cs j,p.1=(a.h,a.i+1)∧a.to≠ .r
  | [],j,p,hp=>by simp [kW] at hp
  | c::r,j,p,hp=>by
    have ih:=@FK b kp r (j+1)
    cases c with
    | o m f=>
      simp only [kW,List.mem_cons] at hp
      rcases hp with rfl | hp
      · refine ⟨_,List.mem_cons_self ..,rfl,?_⟩
        dsimp only
        split<;>simp
      · obtain ⟨a,ha,h2⟩:=ih p hp
        exact ⟨a,List.mem_cons_of_mem _ ha,h2⟩
    | _=>
      simp only [kW] at hp
      obtain ⟨a,ha,h2⟩:=ih p hp
      exact ⟨a,List.mem_cons_of_mem _ ha,h2⟩

theorem UT {x:Operand}{p:PSh}{kp:Nat}{c:CA}(h:Cu L g bres x p kp=some c):gQ c:=by
  unfold Cu at h
  split at h
  · split at h
    · split at h
      · simp only [Option.some.injEq] at h;subst h
        intro p hp;simp at hp
      · cases h
    · split at h
      · split at h
        · split at h
          · rename_i hac
            simp only [Option.some.injEq] at h;subst h
            intro p hp
            exact .inl (Bh hac p hp)
          · cases h
        · cases h
      · cases h
    · cases h
  · split at h
    · split at h
      · split at h
        · simp only [Option.some.injEq] at h;subst h
          intro p hp
          rcases List.mem_cons.1 hp with rfl | hp
          · exact .inr ⟨rfl,_,List.mem_singleton.2 rfl,rfl⟩
          · exact .inl (FK p hp)
        · cases h
      · cases h
    · cases h
  · split at h
    · split at h
      · simp only [Option.some.injEq] at h;subst h
        intro p hp;simp at hp
      · cases h
    · cases h
  · cases h

theorem EP:∀ {xs:List Operand} {ps:List PSh} {kp:Nat} {A:CA},wF L g bres xs ps kp=some A→xs.length=ps.length∧A.os.length=ps.length∧gQ A∧
    ∀ (i:Nat) (x:Operand) (p:PSh),xs[i]? =some x→ps[i]? =some p→∃ c,Cu L g bres x p (kp+i)=some c∧c.Sub A∧∃ o,c.os=[o]∧A.os[i]? =some o
  | [],[],kp,A,h=>by
    simp only [wF,Option.some.injEq] at h
    subst h
    exact ⟨rfl,rfl,fun p hp=>by simp at hp,fun i x p h=>by simp at h⟩
  | [],_::_,_,_,h=>by simp [wF] at h
  | _::_,[],_,_,h=>by simp [wF] at h
  | x::xs,p::ps,kp,A,h=>by
    simp only [wF] at h
    split at h
    · rename_i c1 c2 e1 e2
      simp only [Option.some.injEq] at h
      subst h
      obtain ⟨k1,k2,k3,k4⟩:=EP e2
      obtain ⟨o,ho⟩:=ZP e1
      have hh1:=UT e1
      refine ⟨by simp [k1],by simp [CA.add,ho,k2],fun q hq=>?_,fun i y q hy hq=>?_⟩
      · rcases List.mem_append.1 hq with hq | hq
        · rcases hh1 q hq with ⟨a,ha,h2⟩ | ⟨h0,b,hb,h2⟩
          · exact .inl ⟨a,List.mem_append_left _ ha,h2⟩
          · exact .inr ⟨h0,b,List.mem_append_left _ hb,h2⟩
        · rcases k3 q hq with ⟨a,ha,h2⟩ | ⟨h0,b,hb,h2⟩
          · exact .inl ⟨a,List.mem_append_right _ ha,h2⟩
          · exact .inr ⟨h0,b,List.mem_append_right _ hb,h2⟩
      · cases i with
        | zero=>
          simp only [List.getElem?_cons_zero,Option.some.injEq] at hy hq
          subst hy;subst hq
          refine ⟨c1,e1,⟨fun y hy=>List.mem_append_left _ hy,fun y hy=>List.mem_append_left _ hy,fun y hy=>List.mem_append_left _ hy,fun y hy=>List.mem_append_left _ hy⟩,o,ho,?_⟩
          simp [CA.add,ho]
        | succ i=>
          obtain ⟨c,h1,h2,o',h3,h4⟩:=k4 i y q (by simpa using hy) (by simpa using hq)
          refine ⟨c,by rw [←h1];congr 1;omega,⟨fun y hy=>List.mem_append_right _ (h2.aas y hy),fun y hy=>List.mem_append_right _ (h2.hs y hy),fun y hy=>List.mem_append_right _ (h2.rd y hy),fun y hy=>List.mem_append_right _ (h2.deps y hy)⟩,o',h3,?_⟩
          simp [CA.add,ho,h4]
    · cases h

end

end
section

def vS (own ownE:Own)(hs:List (Leaf×Leaf))(back:Leaf→Option Leaf)(u:Up):Own:=fun g=>
 match ownE g with
 | some i=>(back i.leaf).map fun l=>{i with leaf:=l }
 | none=>match dC own hs g with
  | some _=>none
  | none=>(own g).bind (aX u)

section
variable {w0:World}{own0:Own}{cx:Cx}{own ownE:Own}{w w1:World}{A:CA}{bres:Bool}{back:Leaf→Option Leaf}{u:Up}

theorem mZ {g:Nat}(hE:ownE g=none)(hC:dC own A.hs g=none):vS own ownE A.hs back u g=(own g).bind (aX u):=by
 unfold vS;rw [hE,hC]

theorem uW (hw1:WOk w (dC own A.hs) (BE cx own w.heap.size A bres) ownE w1){g:Nat}(hg:g<w.heap.size)(hC:dC own A.hs g=none):ownE g=none:=by
 cases hE:ownE g with
 | none=>rfl
 | some j=>
  rcases (hw1.dom g j hE).2 with h | h
  ·omega
  ·exact absurd hC h

theorem vT (hnd:bE A.aas=true)(hu:u.aff=A.aas)(hmr:∀ a∈A.aas,a.to= .r→a.own= .r){i:OI}(hf:uU A.aas i.leaf=true):aX u i=none:=by
 obtain ⟨a,ha,hr⟩:=List.any_eq_true.1 hf
 simp only [Bool.and_eq_true] at hr
 have hl:(a.h,a.i+1)=i.leaf:=bP.1 hr.1
 have hto:a.to= .r:=by
  have:=hr.2
  split at this
  ·assumption
  ·cases this
 have hfind:=iF (u:=u) (by rw [hu];exact hnd) (by rw [hu];exact ha)
 unfold aX
 have h2:i.leaf.2=a.i+1:=by rw [←hl]
 have h1:i.leaf.1=a.h:=by rw [←hl]
 rw [h2,h1]
 simp only [hfind,hto,hmr a ha hto]

theorem ZQ (hw:WOk w0 own0 cx own w)(hw1:WOk w (dC own A.hs) (BE cx own w.heap.size A bres) ownE w1)(hnd:bE A.aas=true)(hh:gQ A)(hu:u.aff=A.aas)(hmr:∀ a∈A.aas,a.to= .r→a.own= .r){g o:Nat}
  (h:RS (BE cx own w.heap.size A bres) ownE g o):RS cx (vS own ownE A.hs back u) g o:=by
 obtain ⟨hE,h | h⟩:=h
 ·obtain ⟨h1,h2,h3⟩:=h
  refine ⟨?_,h3⟩
  rw [mZ hE (nP hnd hh h2)]
  unfold BT at h2
  cases ho:own g with
  | none=>rfl
  | some i=>
   rw [ho] at h2
   simp only [Option.bind_some] at h2 ⊢
   split at h2
   ·rename_i hf
    exact vT hnd hu hmr hf
   ·cases h2
 ·rcases h with h | h
  ·have ho:own g=none:=by
    cases ho:own g with
    | none=>rfl
    | some i=>have:=(hw.dom g i ho).1;omega
   refine ⟨?_,.inr ((hw.n g).2 (.inl (Nat.le_trans hw.kept.size h)))⟩
   rw [mZ hE (by unfold dC;rw [ho];rfl),ho]
   rfl
  ·cases hc:dC own A.hs g with
   | none=>exact absurd hc h
   | some j=>
    obtain ⟨i,ho,_⟩:=mY hc
    refine ⟨?_,.inr (hw.dom g i ho).2⟩
    unfold vS
    rw [hE,hc]

theorem ZR (hw:WOk w0 own0 cx own w)(hw1:WOk w (dC own A.hs) (BE cx own w.heap.size A true) ownE w1)(hnd:bE A.aas=true)(hh:gQ A)(hu:u.aff=A.aas)(hmr:∀ a∈A.aas,a.to= .r→a.own= .r){g o:Nat}
  (h:BS (BE cx own w.heap.size A true) ownE g o):BS cx (vS own ownE A.hs back u) g o:=by
 obtain ⟨hE,h⟩:=h
 have hclaim:claimed (vS own ownE A.hs back u) g o→∃ i,own g=some i∧ownE g=none∧dC own A.hs g=none∧uU A.aas i.leaf=false∧∃ b,i.bound=some b∧b≤o:=by
  rintro ⟨j,b,h1,h2,h3⟩
  unfold vS at h1
  cases he:ownE g with
  | some i=>
   rw [he] at h1
   simp only at h1
   cases hb:back i.leaf with
   | none=>rw [hb] at h1;cases h1
   | some l=>
    rw [hb] at h1
    simp only [Option.map_some,Option.some.injEq] at h1
    subst h1
    exact absurd ⟨i,b,he,h2,h3⟩ hE
  | none=>
   rw [he] at h1
   simp only at h1
   cases hc:dC own A.hs g with
   | some _=>rw [hc] at h1;cases h1
   | none=>
    rw [hc] at h1
    simp only at h1
    cases ho:own g with
    | none=>rw [ho] at h1;cases h1
    | some i=>
     rw [ho] at h1
     simp only [Option.bind_some] at h1
     refine ⟨i,rfl,rfl,rfl,?_,?_⟩
     ·cases hf:uU A.aas i.leaf with
      | false=>rfl
      | true=>rw [vT hnd hu hmr hf] at h1;cases h1
     ·obtain ⟨_,hbd,_⟩:=fQ h1
      exact ⟨b,by rw [←hbd];exact h2,h3⟩
 rcases h with h | h
 ·obtain ⟨h1,h2,h3⟩:=h
  obtain ⟨h4,h5⟩:=h3 rfl
  refine ⟨fun hc=>?_,h5⟩
  obtain ⟨i,ho,_,_,hf,b,hb,hbo⟩:=hclaim hc
  refine h4 ⟨i,b,?_,hb,hbo⟩
  unfold BT
  rw [ho]
  simp [hf]
 ·rcases h with h | h
  ·refine ⟨fun hc=>?_,.inr ((hw.n g).2 (.inl (Nat.le_trans hw.kept.size h)))⟩
   obtain ⟨i,ho,_⟩:=hclaim hc
   have:=(hw.dom g i ho).1
   omega
  ·cases hc:dC own A.hs g with
   | none=>exact absurd hc h
   | some j=>
    obtain ⟨i,ho,_⟩:=mY hc
    refine ⟨fun hcl=>?_,.inr (hw.dom g i ho).2⟩
    obtain ⟨_,_,_,hcn,_⟩:=hclaim hcl
    rw [hc] at hcn;cases hcn

end

end
end V
end Go.Proofs.YtgekfemnjphmbaaGreat
