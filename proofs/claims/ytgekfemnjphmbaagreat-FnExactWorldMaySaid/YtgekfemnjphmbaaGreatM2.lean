/-
Part 2 of the proof of the claimed statement (its last part holds the theorem, and says what is proved). Conditions: none.
-/
import Derived.Test.YtgekfemnjphmbaaGreatM1
set_option linter.all false
set_option maxRecDepth 100000
/-
Behind a call: the step.
-/
namespace Go.Proofs.YtgekfemnjphmbaaGreat
namespace V
section

structure BackOk (u:Up) (A:CA) (back:Leaf→Option Leaf):Prop where
 inj:∀ l l' m,back l=some m→back l'=some m→l=l'
 /-- where a label goes back to, nothing of the caller's is kept -/
 free:∀ l m,back l=some m→u.isDst m.1=true∨(∃ b∈A.bs,b.1=m.1∧(m.2=0∨∃ k,m.2=k+1∧(u.find b.1 k).isSome=true))

section
variable {w0:World}{own0:Own}{cx:Cx}{own ownE:Own}{w w1:World}{A:CA}{bres:Bool}{back:Leaf→Option Leaf}{u:Up}{env env':Env}{tv tv':Nat→Value}

theorem aC0 (hnd:bE A.aas=true)(hh:gQ A)(hu:u.aff=A.aas)(hb:u.bx=A.bs){l l':Leaf}(h:dU A.hs l=some l'):u.A l:=by
 rcases hh _ (fM h) with ⟨a,ha,h1,_⟩ | ⟨h1,b,hb',h2⟩
 ·have:=iF (u:=u) (by rw [hu];exact hnd) (by rw [hu];exact ha)
  simp only at h1
  exact .inr (.inr ⟨a.i,by rw [h1],.inl (by rw [h1,this];rfl)⟩)
 ·exact .inr (.inl ⟨b,by rw [hb];exact hb',h2,h1⟩)

theorem UU (hw:WOk w0 own0 cx own w)(hw1:WOk w (dC own A.hs) (BE cx own w.heap.size A bres) ownE w1)(hnd:bE A.aas=true)(hh:gQ A)(hu:u.aff=A.aas)(hub:u.bx=A.bs)
  (hal:∀ a∈A.aas,∀ d j m f,a.to≠ .al d j m f)(hbk:BackOk u A back)(hbox:∀ b∈A.bs,∃ l',dU A.hs (b.1,0)=some l')
  (hkeep:∀ a∈A.aas,∀ m f,a.own= .o m f→∃ l',dU A.hs (a.h,a.i+1)=some l')
  (henv:∀ s,¬u.W s→env' s=env s)(htv:∀ s,u.d≠some s→tv' s=tv s):
  Step cx own w env tv u.A u.W u.d (vS own ownE A.hs back u) w1 env' tv':=by
 have hk:=hw1.kept
 have hold:∀ {g:Nat} {i':OI},vS own ownE A.hs back u g=some i'→(∃ i,ownE g=some i∧back i.leaf=some i'.leaf∧i'={i with leaf:=i'.leaf })∨(ownE g=none∧dC own A.hs g=none∧∃ i,own g=some i∧aX u i=some i'∧i'=i):=by
  intro g i' h
  unfold vS at h
  cases he:ownE g with
  | some i=>
   rw [he] at h
   simp only at h
   cases hb:back i.leaf with
   | none=>rw [hb] at h;cases h
   | some l=>
    rw [hb] at h
    simp only [Option.map_some,Option.some.injEq] at h
    subst h
    exact .inl ⟨i,rfl,hb,rfl⟩
  | none=>
   rw [he] at h
   simp only at h
   cases hc:dC own A.hs g with
   | some _=>rw [hc] at h;cases h
   | none=>
    rw [hc] at h
    simp only at h
    cases ho:own g with
    | none=>rw [ho] at h;cases h
    | some i=>
     rw [ho] at h
     simp only [Option.bind_some] at h
     refine .inr ⟨rfl,rfl,i,rfl,h,?_⟩
     obtain ⟨_,_,h1 | ⟨k,a,d,j,m,f,_,h2,h3,_⟩⟩:=fQ h
     ·exact h1.1
     ·exact absurd h3 (hal a (by rw [←hu];exact (Up.find_some h2).1) d j m f)
 refine ⟨⟨hk.os,hk.tape,hk.output,hk.size,fun g hg hn=>hk.block g hg (by unfold dC;rw [hn];rfl),fun g o hg hc=>hk.cell g o hg (fun h=>hc (kY h)),hk.row⟩,fun g hg hn=>?_,fun g o hg hc hc'=>?_,fun g i hi hA=>?_,fun g i' h=>?_,fun g g' i' j' h h' hl hp=>?_,henv,htv⟩
 ·have hC:dC own A.hs g=none:=by unfold dC;rw [hn];rfl
  rw [mZ (uW hw1 hg hC) hC,hn];rfl
 ·obtain ⟨i',b,h1,h2,h3⟩:=hc'
  rcases hold h1 with ⟨i,h4,_,h5⟩ | ⟨_,_,i,h4,_,h5⟩
  ·rw [h5] at h2
   exact hc (kY (hw1.cl g o hg ⟨i,b,h4,h2,h3⟩))
  ·rw [h5] at h2
   exact hc ⟨i,b,h4,h2,h3⟩
 ·have hg:=(hw.dom g i hi).1
  have hC:dC own A.hs g=none:=by
   unfold dC
   rw [hi]
   cases hm:dU A.hs i.leaf with
   | none=>simp [hm]
   | some l'=>exact absurd (aC0 hnd hh hu hub hm) hA
  exact ⟨by rw [mZ (uW hw1 hg hC) hC,hi];exact uR hA,hk.block g hg hC⟩
 ·rcases hold h with ⟨i,h4,_,_⟩ | ⟨_,_,i,h4,_,_⟩
  ·obtain ⟨h5,h6⟩:=hw1.dom g i h4
   refine ⟨h5,?_⟩
   rcases h6 with h6 | h6
   ·exact (hw.n g).2 (.inl (Nat.le_trans hw.kept.size h6))
   ·cases hc:dC own A.hs g with
    | none=>exact absurd hc h6
    | some j=>
     obtain ⟨i0,ho,_⟩:=mY hc
     exact (hw.dom g i0 ho).2
  ·obtain ⟨h5,h6⟩:=hw.dom g i h4
   exact ⟨Nat.lt_of_lt_of_le h5 hk.size,h6⟩
 ·have cross:∀ {g:Nat} {m:Leaf} {l:Leaf},back l=some m→∀ {i:OI},dC own A.hs g=none→own g=some i→aX u i=some i→i.leaf=m→False:=by
   intro g m l hb i hC ho hr he
   obtain ⟨_,_,h1⟩:=fQ hr
   have hnd':u.isDst i.leaf.1=false:=by
    rcases h1 with h1 | ⟨k,a,d,j,mm,f,_,h2,h3,_⟩
    ·exact h1.2.1
    ·exact absurd h3 (hal a (by rw [←hu];exact (Up.find_some h2).1) d j mm f)
   rcases hbk.free l m hb with h2 | ⟨b,hb',h2,h3⟩
   ·rw [he,h2] at hnd';cases hnd'
   ·rcases h3 with h3 | ⟨k,h3,h4⟩
    ·obtain ⟨l',hl'⟩:=hbox b hb'
     have:i.leaf=(b.1,0):=by rw [he];exact Prod.ext h2.symm h3
     unfold dC at hC
     rw [ho] at hC
     simp [this,hl'] at hC
    ·obtain ⟨a,ha⟩:=Option.isSome_iff_exists.1 h4
     obtain ⟨h5,h6,h7⟩:=Up.find_some ha
     unfold aX at hr
     have e2:i.leaf.2=k+1:=by rw [he];exact h3
     have e1:i.leaf.1=b.1:=by rw [he];exact h2.symm
     rw [e2,e1] at hr
     simp only [ha] at hr
     split at hr
     ·rename_i d j mm f hto
      exact hal a (by rw [←hu];exact h5) d j mm f hto
     ·split at hr
      ·rename_i mm f how
       obtain ⟨l',hl'⟩:=hkeep a (by rw [←hu];exact h5) mm f how
       have:i.leaf=(a.h,a.i+1):=Prod.ext (by rw [e1,h6]) (by rw [e2,h7])
       unfold dC at hC
       rw [ho] at hC
       simp [this,hl'] at hC
      ·cases hr
  rcases hold h with ⟨i,h1,h2,h3⟩ | ⟨_,h1,i,h2,h3,h4⟩
  ·rcases hold h' with ⟨j,k1,k2,k3⟩ | ⟨_,k1,j,k2,k3,k4⟩
   ·refine hw1.inj g g' i j h1 k1 (hbk.inj _ _ _ h2 (by rw [hl];exact k2)) ?_
    rw [h3,k3] at hp
    exact hp
   ·subst k4
    exact (cross h2 k1 k2 k3 hl.symm).elim
  ·subst h4
   rcases hold h' with ⟨j,k1,k2,k3⟩ | ⟨_,k1,j,k2,k3,k4⟩
   ·exact (cross k2 h1 h2 h3 hl).elim
   ·subst k4
    exact hw.inj g g' _ _ h2 k2 hl hp

end

end
section

def CallAff (A:CA)(a:Aff):Prop:=
 (a.to= .r∧a.own= .r)∨(a.to= .x∧(a.own= .x∨∃ b∈A.bs,b.1=a.h))∨(a.to= .b∧a.m=false∧(a.own= .b∨∃ b∈A.bs,b.1=a.h))

section
variable {w0:World}{own0:Own}{cx:Cx}{own ownE:Own}{w w1:World}{A:CA}{bres:Bool}{back:Leaf→Option Leaf}{u:Up}{env env':Env}{tv tv':Nat→Value}

theorem Wy (hw:WOk w0 own0 cx own w)(hw1:WOk w (dC own A.hs) (BE cx own w.heap.size A bres) ownE w1)(hnd:bE A.aas=true)(hh:gQ A)(hu:u.aff=A.aas)(hub:u.bx=A.bs)
  (hca:∀ a∈A.aas,CallAff A a)(hbd:∀ b∈A.bs,u.isDst b.1=false)
  (st:Step cx own w env tv u.A u.W u.d (vS own ownE A.hs back u) w1 env' tv'):AffOk cx own w u (vS own ownE A.hs back u) w1:=by
 have hmr:∀ a∈A.aas,a.to= .r→a.own= .r:=fun a ha hr=>by
  rcases hca a ha with h | h | h
  ·exact h.2
  ·rw [h.1] at hr;cases hr
  ·rw [h.1] at hr;cases hr
 have hto:∀ a∈A.aas,∀ x v,OwnRep w cx own (a.h,a.i+1) a.m a.f x v→∀ s i,CellIs w1 cx (vS own ownE A.hs back u) s i a.to x v:=by
  intro a ha x v ho s i
  rcases hca a ha with ⟨h1,_⟩ | ⟨h1,_⟩ | ⟨h1,h2,_⟩
  ·rw [h1]
   have hfr:uU A.aas (a.h,a.i+1)=true:=List.any_eq_true.2 ⟨a,ha,by simp [gP,h1]⟩
   refine OwnRep.frozen' ho (fun g j hj hl=>?_) (fun d v h=>st.rs h)
   have hC:dC own A.hs g=none:=by
    unfold dC;rw [hj];simp [hl,uV hnd hh hfr]
   have hg:=(hw.dom g j hj).1
   refine ⟨?_,(hw.dom g j hj).2,hw1.kept.block g hg hC⟩
   rw [mZ (uW hw1 hg hC) hC,hj]
   exact vT hnd hu hmr (by rw [hl];exact hfr)
  ·rw [h1];trivial
  ·rw [h1]
   rw [h2] at ho
   exact st.bs (OwnRep.borrow ho (fun g i hi=>(hw.dom g i hi).2) hw.s1)
 refine ⟨fun a ha m f=>?_,fun a ha=>hto a (by rw [←hu];exact ha),fun a ha hW x v ho=>?_,fun h i hd hf m f x v ho=>?_⟩
 ·rcases hca a (by rw [←hu];exact ha) with h | h | h<;>rw [h.1]<;>simp
 ·have ha':a∈A.aas:=by rw [←hu];exact ha
  have hno:¬∃ b∈A.bs,b.1=a.h:=fun ⟨b,hb,he⟩=>hW (.inr ⟨b,by rw [hub];exact hb,he⟩)
  have hown:a.own=a.to:=by
   rcases hca a ha' with h | ⟨h1,h2 | h2⟩ | ⟨h1,_,h2 | h2⟩
   ·rw [h.1,h.2]
   ·rw [h1,h2]
   ·exact absurd h2 hno
   ·rw [h1,h2]
   ·exact absurd h2 hno
  rw [hown]
  exact hto a ha' x v ho _ _
 ·have hnm:dU A.hs (h,i+1)=none:=by
   cases hm:dU A.hs (h,i+1) with
   | none=>rfl
   | some l'=>
    rcases hh _ (fM hm) with ⟨a,ha,h1,_⟩ | ⟨h1,_⟩
    ·simp only [Prod.mk.injEq,Nat.add_right_cancel_iff] at h1
     have:=iF (u:=u) (by rw [hu];exact hnd) (by rw [hu];exact ha)
     rw [←h1.1,←h1.2,hf] at this
     cases this
    ·simp at h1
  refine OwnRep.frozen' ho (fun g j hj hl=>?_) (fun d v h=>st.rs h)
  have hC:dC own A.hs g=none:=by
   unfold dC;rw [hj];simp [hl,hnm]
  have hg:=(hw.dom g j hj).1
  refine ⟨?_,(hw.dom g j hj).2,hw1.kept.block g hg hC⟩
  rw [mZ (uW hw1 hg hC) hC,hj]
  simp only [Option.bind_some]
  unfold aX
  have h2:j.leaf.2=i+1:=by rw [hl]
  have h1:j.leaf.1=h:=by rw [hl]
  rw [h2,h1]
  simp [hf,hd]

end

end
section

section
variable {w0:World}{own0:Own}{cx:Cx}{own ownE:Own}{w w1:World}{A:CA}{bres:Bool}{back:Leaf→Option Leaf}{u:Up}

theorem OwnRep.relab2 {cx1 cx2:Cx}{o1 o2:Own}{lf lf':Nat×Nat}{m:Bool}{f:Fz}{d:D}{v:Value}(h:OwnRep w1 cx1 o1 lf m f d v)
  (hl:∀ g i,o1 g=some i→i.leaf=lf→o2 g=some {i with leaf:=lf' })(hr:∀ d v,Rep w1 (RS cx1 o1) d v→Rep w1 (RS cx2 o2) d v):OwnRep w1 cx2 o2 lf' m f d v:=by
 cases h with
 | nil=>exact .nil
 | sl xs g cap cur T fr vs h1 h2 h3 h4 h5 h6 h7 h8 h9 h10=>
  refine .sl xs g cap cur T fr vs h1 (hl g _ h2 rfl) h3 h4 h5 h6 h7 h8 h9 (fun i x j d hx hj=>?_)
  have h11:=h10 i x j d hx hj
  obtain ⟨sz,u⟩:=f
  cases u with
  | false=>exact hr _ _ h11
  | true=>exact InRep.keep h11 (fun g i hi hl'=>⟨hl g i hi hl',rfl⟩)
 | ip xs v hf h1=>exact .ip xs v hf (InRep.keep h1 (fun g i hi hl'=>⟨hl g i hi hl',rfl⟩))

theorem UV (hw:WOk w0 own0 cx own w)(hw1:WOk w (dC own A.hs) (BE cx own w.heap.size A bres) ownE w1)(hnd:bE A.aas=true)(hh:gQ A)(hu:u.aff=A.aas)(hmr:∀ a∈A.aas,a.to= .r→a.own= .r)
  {k j k' j':Nat}{c:CS}{x:D}{v:Value}(hb:c= .b→bres=true)(hna:oN c=true)(hback:∀ m f,c= .o m f→back (k,j+1)=some (k',j'+1))
  (h:aS w1 (BE cx own w.heap.size A bres) ownE k j c x v):aS w1 cx (vS own ownE A.hs back u) k' j' c x v:=by
 refine ⟨h.1,?_⟩
 have h2:=h.2
 have hrs:∀ {d:D} {v:Value},Rep w1 (RS (BE cx own w.heap.size A bres) ownE) d v→Rep w1 (RS cx (vS own ownE A.hs back u)) d v:=fun hr=>hr.sub (fun g o=>ZQ hw hw1 hnd hh hu hmr)
 cases c with
 | n=>exact h2
 | s=>exact h2
 | r=>exact hrs h2
 | b=>
  have:=hb rfl
  subst this
  exact Rep.sub h2 (fun g o=>ZR hw hw1 hnd hh hu hmr)
 | x=>trivial
 | al _ _ _ _=>cases hna
 | o m f=>
  have hbk:=hback m f rfl
  refine OwnRep.relab2 h2 (fun g i hi hl=>?_) (fun d v hr=>hrs hr)
  unfold vS
  rw [hi]
  simp [hl,hbk]

end

end
section

def GO:List PSh→Nat→Nat
 | [],_=>0
 | _,0=>0
 | .v _ cs::r,k+1=>cs.length+GO r k
 | _::r,k+1=>GO r k

def hM (sig:Sig)(bs:List (Nat×Sh))(d:Nat)(l:Leaf):Option Leaf:=
 if l.1<sig.rs.length then
  match sig.rs with
  | [.v _ cs]=>if 1≤l.2∧l.2≤cs.length then some (d,l.2) else none
  | [.nbox cs]=>if l.2≤cs.length then some (d,l.2) else none
  | ps=>match ps[l.1]? with
   | some (.v _ cs)=>if 1≤l.2∧l.2≤cs.length then some (d,GO ps l.1+l.2) else none
   | _=>none
 else match bs[l.1 - sig.rs.length]? with
  | some (b,.box false ws)=>if l.2≤ws.length then some (b,l.2) else none
  | _=>none

theorem EQ {e:Env}:∀ {bs:List Nat} {cs:List (List D)} {s:Nat},s∉bs→iZ e bs cs s=e s
 | [],cs,s,_=>by cases cs<;>rfl
 | b::bs,[],s,_=>rfl
 | b::bs,c::cs,s,h=>by
  simp only [List.mem_cons,not_or] at h
  simp only [iZ]
  rw [EQ (e:=put e b c) h.2,cY _ _ _ _ h.1]

theorem Hi:∀ {bs:List Nat} {cs:List (List D)} {e:Env},eM bs=true→cs.length=bs.length→∀ {i b:Nat} {c:List D},bs[i]? =some b→cs[i]? =some c→iZ e bs cs b=c
 | [],_,_,_,_,i,b,c,h,_=>by simp at h
 | b0::bs,[],_,_,h,_,_,_,_,_=>by simp at h
 | b0::bs,c0::cs,e,hd,hl,0,b,c,hb,hc=>by
  simp only [List.getElem?_cons_zero,Option.some.injEq] at hb hc
  subst hb;subst hc
  simp only [eM,Bool.and_eq_true,Bool.not_eq_true'] at hd
  simp only [iZ]
  rw [EQ (fun hm=>?_),aI]
  have:=List.any_eq_false.1 hd.1 b0 hm
  simp at this
 | b0::bs,c0::cs,e,hd,hl,i+1,b,c,hb,hc=>by
  simp only [eM,Bool.and_eq_true] at hd
  simp only [iZ]
  exact Hi hd.2 (by simpa using hl) (by simpa using hb) (by simpa using hc)

theorem Ls:∀ {ps:List PSh} {k:Nat} {a:Bool} {cs:List CS},ps[k]? =some (.v a cs)→∀ {k':Nat} {a':Bool} {cs':List CS},ps[k']? =some (.v a' cs')→k<k'→GO ps k+cs.length≤GO ps k'
 | [],k,_,_,h,_,_,_,_,_=>by simp at h
 | p::r,0,a,cs,h,k',a',cs',h',hlt=>by
  simp only [List.getElem?_cons_zero,Option.some.injEq] at h
  subst h
  match k',hlt with
  | k'+1,_=>simp only [GO];omega
 | p::r,k+1,a,cs,h,k',a',cs',h',hlt=>by
  match k',hlt with
  | k'+1,hlt=>
   have:=Ls (ps:=r) (k:=k) (by simpa using h) (k':=k') (by simpa using h') (by omega)
   cases p<;>simp only [GO]<;>omega

end
section

theorem All3.append {Q:Nat→CS→D→Value→Prop}{c1 c2:List CS}{d1 d2:List D}{v1 v2:List Value}(h1:All3 Q c1 d1 v1)(h2:All3 (fun j=>Q (c1.length+j)) c2 d2 v2):All3 Q (c1++c2) (d1++d2) (v1++v2):=by
 obtain ⟨a1,a2,a3⟩:=h1
 obtain ⟨b1,b2,b3⟩:=h2
 refine ⟨by simp [a1,b1],by simp [a2,b2],fun i c d v hc hd hv=>?_⟩
 by_cases hi:i<c1.length
 ·rw [List.getElem?_append_left hi] at hc
  rw [List.getElem?_append_left (by omega)] at hd hv
  exact a3 i c d v hc hd hv
 ·rw [List.getElem?_append_right (by omega)] at hc hd hv
  have:=b3 (i - c1.length) c d v hc (by rw [←hd];congr 1;omega) (by rw [←hv];congr 1;omega)
  dsimp only at this
  rwa [show c1.length+(i - c1.length)=i from by omega] at this

theorem Wz {Q:Nat→CS→D→Value→Prop}:∀ {ps:List PSh} {qs:List (Bool×List CS)} {rs:List (List D)} {rv:List Value} {off:Nat},jD.go ps=some qs→rs.length=ps.length→rv.length=ps.length→
  (∀ (k:Nat) (a:Bool) (cs:List CS) (r:List D) (v:Value),ps[k]? =some (.v a cs)→rs[k]? =some r→rv[k]? =some v→∃ vs,v=wrapV a vs∧(a=false→vs.length=1)∧All3 (fun j=>Q (off+GO ps k+j)) cs r vs)→
  ∃ vss:List (List Value),rv=List.zipWith (fun (p:Bool×List CS) vs=>wrapV p.1 vs) qs vss∧vss.length=qs.length∧
   (∀ (i:Nat) (p:Bool×List CS) (vs:List Value),qs[i]? =some p→vss[i]? =some vs→vs.length=p.2.length∧(p.1=false→vs.length=1))∧All3 (fun j=>Q (off+j)) (qs.flatMap (·.2)) rs.flatten vss.flatten
 | [],qs,rs,rv,off,h,h1,h2,_=>by
  simp only [jD.go,Option.some.injEq] at h
  subst h
  have e1:rs=[]:=List.eq_nil_of_length_eq_zero h1
  have e2:rv=[]:=List.eq_nil_of_length_eq_zero h2
  subst e1;subst e2
  exact ⟨[],rfl,rfl,fun i p vs h=>by simp at h,rfl,rfl,fun i c d v h=>by simp at h⟩
 | p::ps,qs,[],rv,off,h,h1,h2,_=>by simp at h1
 | p::ps,qs,r::rs,[],off,h,h1,h2,_=>by simp at h2
 | p::ps,qs,r::rs,v::rv,off,h,h1,h2,h3=>by
  cases p with
  | v a cs=>
   simp only [jD.go] at h
   cases hg:jD.go ps with
   | none=>rw [hg] at h;cases h
   | some qs'=>
    rw [hg] at h
    simp only [Option.map_some,Option.some.injEq] at h
    subst h
    obtain ⟨vs,k1,k2,k3⟩:=h3 0 a cs r v rfl rfl rfl
    simp only [GO,Nat.add_zero] at k3
    obtain ⟨vss,m1,m2,m3,m4⟩:=Wz (Q:=Q) (off:=off+cs.length) hg (by simpa using h1) (by simpa using h2) (fun k a' cs' r' v' e1 e2 e3=>by
     obtain ⟨vs',q1,q2,q3⟩:=h3 (k+1) a' cs' r' v' (by simpa using e1) (by simpa using e2) (by simpa using e3)
     refine ⟨vs',q1,q2,?_⟩
     simp only [GO] at q3
     rwa [←Nat.add_assoc] at q3)
    refine ⟨vs::vss,by simp [k1,m1],by simp [m2],fun i p ws hp hw=>?_,?_⟩
    ·cases i with
     | zero=>
      simp only [List.getElem?_cons_zero,Option.some.injEq] at hp hw
      subst hp;subst hw
      exact ⟨k3.2.1.trans k3.1.symm,k2⟩
     | succ i=>exact m3 i p ws (by simpa using hp) (by simpa using hw)
    ·simp only [List.flatMap_cons,List.flatten_cons]
     refine All3.append k3 ?_
     refine All3.imp m4 (fun j c d v h=>?_)
     rwa [Nat.add_assoc] at h
  | io a cs=>simp [jD.go] at h
  | box ro cs=>simp [jD.go] at h
  | clo f=>simp [jD.go] at h
  | nbox cs=>simp [jD.go] at h

end
section

section
variable {bres:Bool}{L:Look}{g:Gd}

theorem XA {B:CA}{s kp i:Nat}{c w:CS}{a1:List Aff}{h1:List (Leaf×Leaf)}{r1:List Leaf}(h:rX bres s kp i c w=some (a1,h1,r1)):(∀ a∈a1,CallAff B a∧∀ m f,a.own≠ .o m f)∧∀ p∈h1,p.2.1=kp:=by
  unfold rX at h
  repeat' (split at h)
  all_goals first
    | (cases h;done)
    | (simp only [Option.some.injEq,Prod.mk.injEq] at h
       obtain ⟨rfl,rfl,rfl⟩:=h
       refine ⟨fun a ha=>?_,fun p hp=>?_⟩
       · first
           | (simp at ha;done)
           | (simp only [List.mem_singleton] at ha
              subst ha
              first
                | exact ⟨.inl ⟨rfl,rfl⟩,fun m f=>by simp⟩
                | exact ⟨.inr (.inl ⟨rfl,.inl rfl⟩),fun m f=>by simp⟩
                | (rename_i hm
                   exact ⟨.inr (.inr ⟨rfl,by simpa using hm,.inl rfl⟩),fun m f=>by simp⟩))
       · first
           | (simp at hp;done)
           | (simp only [List.mem_singleton] at hp
              subst hp;rfl))

theorem DS {B:CA}{s kp:Nat}:∀ {cs ws:List CS} {i:Nat} {aas:List Aff} {hs:List (Leaf×Leaf)} {rd:List Leaf},fE bres s kp cs ws i=some (aas,hs,rd)→(∀ a∈aas,CallAff B a∧∀ m f,a.own≠ .o m f)∧∀ p∈hs,p.2.1=kp
  | [],[],i,aas,hs,rd,h=>by
    simp only [fE,Option.some.injEq,Prod.mk.injEq] at h
    obtain ⟨rfl,rfl,rfl⟩:=h
    exact ⟨fun a ha=>by simp at ha,fun p hp=>by simp at hp⟩
  | [],_::_,_,_,_,_,h=>by simp [fE] at h
  | _::_,[],_,_,_,_,h=>by simp [fE] at h
  | c::r,w::ws,i,aas,hs,rd,h=>by
    simp only [fE] at h
    split at h
    · rename_i a1 b1 r1 a2 b2 r2 e1 e2
      simp only [Option.some.injEq,Prod.mk.injEq] at h
      obtain ⟨rfl,rfl,rfl⟩:=h
      obtain ⟨k1,k2⟩:=XA (B:=B) e1
      obtain ⟨m1,m2⟩:=DS (B:=B) e2
      refine ⟨fun a ha=>?_,fun p hp=>?_⟩
      · rcases List.mem_append.1 ha with ha | ha
        · exact k1 a ha
        · exact m1 a ha
      · rcases List.mem_append.1 hp with hp | hp
        · exact k2 p hp
        · exact m2 p hp
    · cases h

theorem Hj {b:Nat}:∀ {cs:List CS} {j k:Nat},k<cs.length→∃ a∈xF b cs j,a.h=b∧a.i=j+k
  | [],j,k,h=>by simp at h
  | c::r,j,0,_=>by
    cases c<;>exact ⟨_,List.mem_cons_self ..,rfl,rfl⟩
  | c::r,j,k+1,h=>by
    obtain ⟨a,ha,h1,h2⟩:=Hj (b:=b) (cs:=r) (j:=j+1) (k:=k) (by simpa using h)
    refine ⟨a,?_,h1,by omega⟩
    cases c<;>exact List.mem_cons_of_mem _ ha

theorem Hk {B:CA}{b kp:Nat}(hB:∃ p∈B.bs,p.1=b):∀ {cs:List CS} {j:Nat},∀ a∈xF b cs j,CallAff B a∧∀ m f,a.own= .o m f→((a.h,a.i+1),(kp,a.i+1))∈kW b kp cs j
  | [],j,a,ha=>by simp [xF] at ha
  | c::r,j,a,ha=>by
    have ih:=@Hk B b kp hB r (j+1)
    cases c with
    | o m f=>
      simp only [xF,List.mem_cons] at ha
      rcases ha with rfl | ha
      · refine ⟨?_,fun m' f' _=>List.mem_cons_self ..⟩
        cases m with
        | true=>exact .inr (.inl ⟨rfl,.inr hB⟩)
        | false=>exact .inr (.inr ⟨rfl,rfl,.inr hB⟩)
      · obtain ⟨h1,h2⟩:=ih a ha
        exact ⟨h1,fun m' f' he=>List.mem_cons_of_mem _ (h2 m' f' he)⟩
    | _=>
      simp only [xF,List.mem_cons] at ha
      rcases ha with rfl | ha
      · exact ⟨.inr (.inl ⟨rfl,.inl rfl⟩),fun m' f' he=>by cases he⟩
      · obtain ⟨h1,h2⟩:=ih a ha
        exact ⟨h1,h2⟩

theorem FL {b kp:Nat}:∀ {cs:List CS} {j:Nat},∀ p∈kW b kp cs j,p.2.1=kp
  | [],j,p,hp=>by simp [kW] at hp
  | c::r,j,p,hp=>by
    have ih:=@FL b kp r (j+1)
    cases c<;>simp only [kW,List.mem_cons] at hp<;>first
      | exact ih p hp
      | (rcases hp with rfl | hp
         · rfl
         · exact ih p hp)

structure PartOk (L:Look) (g:Gd) (x:Operand) (p:PSh) (kp:Nat) (c B:CA):Prop where
  aff:∀ a∈c.aas,CallAff B a∧∀ m f,a.own= .o m f→∃ l',((a.h,a.i+1),l')∈c.hs
  dst:∀ q∈c.hs,q.2.1=kp
  box:(∃ ws b cs,p= .box false ws∧c.bs=[(b,.box false ws)]∧boxOf L g x=some b∧L b= .box false cs∧ws.length=cs.length∧((b,0),(kp,0))∈c.hs∧∀ k,k<cs.length→∃ a∈c.aas,a.h=b∧a.i=k)∨((∀ ws,p≠ .box false ws)∧c.bs=[])

theorem UW {x:Operand}{p:PSh}{kp:Nat}{c B:CA}(h:Cu L g bres x p kp=some c)(hB:∀ q∈c.bs,q∈B.bs):PartOk L g x p kp c B:=by
  unfold Cu at h
  split at h
  · split at h
    · split at h
      · simp only [Option.some.injEq] at h;subst h
        exact ⟨fun a ha=>by simp at ha,fun q hq=>by simp at hq,.inr ⟨(fun ws e=>by cases e),rfl⟩⟩
      · cases h
    · split at h
      · split at h
        · split at h
          · rename_i hac
            simp only [Option.some.injEq] at h;subst h
            obtain ⟨k1,k2⟩:=DS (B:=B) hac
            exact ⟨fun a ha=>⟨(k1 a ha).1,fun m f he=>absurd he ((k1 a ha).2 m f)⟩,k2,.inr ⟨(fun ws e=>by cases e),rfl⟩⟩
          · cases h
        · cases h
      · cases h
    · cases h
  · rename_i ws
    split at h
    · rename_i b hbo
      split at h
      · rename_i cs hLb
        split at h
        · rename_i hbf
          simp only [Option.some.injEq] at h;subst h
          have hBb:∃ q∈B.bs,q.1=b:=⟨_,hB _ (List.mem_singleton.2 rfl),rfl⟩
          refine ⟨fun a ha=>?_,fun q hq=>?_,.inl ⟨ws,b,cs,rfl,rfl,hbo,hLb,(AB hbf).1,List.mem_cons_self ..,fun k hk=>?_⟩⟩
          · obtain ⟨k1,k2⟩:=Hk (B:=B) (kp:=kp) hBb a ha
            exact ⟨k1,fun m f he=>⟨_,List.mem_cons_of_mem _ (k2 m f he)⟩⟩
          · rcases List.mem_cons.1 hq with rfl | hq
            · rfl
            · exact FL q hq
          · obtain ⟨a,ha,h1,h2⟩:=Hj (b:=b) (cs:=cs) (j:=0) hk
            exact ⟨a,ha,h1,by omega⟩
        · cases h
      · cases h
    · cases h
  · split at h
    · split at h
      · simp only [Option.some.injEq] at h;subst h
        exact ⟨fun a ha=>by simp at ha,fun q hq=>by simp at hq,.inr ⟨(fun ws e=>by cases e),rfl⟩⟩
      · cases h
    · cases h
  · cases h

structure PartsOk (L:Look) (g:Gd) (xs:List Operand) (ps:List PSh) (kp:Nat) (A B:CA):Prop where
  aff:∀ a∈A.aas,CallAff B a∧∀ m f,a.own= .o m f→∃ l',((a.h,a.i+1),l')∈A.hs
  dst:∀ q∈A.hs,kp≤q.2.1∧q.2.1<kp+ps.length
  len:A.bs.length=(boxPs ps kp).length
  box:∀ (i k:Nat) (ws:List CS),(boxPs ps kp)[i]? =some (k,ws)→kp≤k∧∃ b cs x,A.bs[i]? =some (b,.box false ws)∧xs[k - kp]? =some x∧boxOf L g x=some b∧L b= .box false cs∧ws.length=cs.length∧((b,0),(k,0))∈A.hs∧∀ j,j<cs.length→∃ a∈A.aas,a.h=b∧a.i=j

theorem FM {B:CA}:∀ {xs:List Operand} {ps:List PSh} {kp:Nat} {A:CA},wF L g bres xs ps kp=some A→(∀ q∈A.bs,q∈B.bs)→PartsOk L g xs ps kp A B
  | [],[],kp,A,h,_=>by
    simp only [wF,Option.some.injEq] at h
    subst h
    exact ⟨fun a ha=>by simp at ha,fun q hq=>by simp at hq,rfl,fun i k ws h=>by simp [boxPs] at h⟩
  | [],_::_,_,_,h,_=>by simp [wF] at h
  | _::_,[],_,_,h,_=>by simp [wF] at h
  | x::xs,p::ps,kp,A,h,hB=>by
    simp only [wF] at h
    split at h
    · rename_i c1 c2 e1 e2
      simp only [Option.some.injEq] at h
      subst h
      have P1:=UW (B:=B) e1 (fun q hq=>hB q (List.mem_append_left _ hq))
      have P2:=FM (B:=B) e2 (fun q hq=>hB q (List.mem_append_right _ hq))
      have bound:∀ q∈c2.hs,kp≤q.2.1∧q.2.1<kp+(p::ps).length:=fun q hq=>by
        have:=P2.dst q hq
        simp only [List.length_cons]
        omega
      have later:∀ (i k:Nat) (ws:List CS),(boxPs ps (kp+1))[i]? =some (k,ws)→∀ (n:Nat),n=c1.bs.length→kp≤k∧∃ b cs y,(c1.add c2).bs[n+i]? =some (b,.box false ws)∧(x::xs)[k - kp]? =some y∧boxOf L g y=some b∧L b= .box false cs∧ws.length=cs.length∧((b,0),(k,0))∈(c1.add c2).hs∧∀ j,j<cs.length→∃ a∈(c1.add c2).aas,a.h=b∧a.i=j:=by
        intro i k ws hi n hn
        obtain ⟨h1,b,cs,y,h2,h3,h4,h5,h6,h7,h8⟩:=P2.box i k ws hi
        refine ⟨by omega,b,cs,y,?_,?_,h4,h5,h6,List.mem_append_right _ h7,fun j hj=>?_⟩
        · show (c1.bs++c2.bs)[n+i]? =_
          rw [List.getElem?_append_right (by omega),←h2]
          congr 1;omega
        · rw [show k - kp=(k - (kp+1))+1 from by omega,List.getElem?_cons_succ]
          exact h3
        · obtain ⟨a,ha,h9⟩:=h8 j hj
          exact ⟨a,List.mem_append_right _ ha,h9⟩
      refine ⟨fun a ha=>?_,fun q hq=>?_,?_,fun i k ws hi=>?_⟩
      · rcases List.mem_append.1 ha with ha | ha
        · obtain ⟨h1,h2⟩:=P1.aff a ha
          exact ⟨h1,fun m f he=>(h2 m f he).imp fun l' hl=>List.mem_append_left _ hl⟩
        · obtain ⟨h1,h2⟩:=P2.aff a ha
          exact ⟨h1,fun m f he=>(h2 m f he).imp fun l' hl=>List.mem_append_right _ hl⟩
      · rcases List.mem_append.1 hq with hq | hq
        · have:=P1.dst q hq
          simp only [List.length_cons]
          omega
        · exact bound q hq
      · rcases P1.box with ⟨ws,b,cs,rfl,h2,_⟩ | ⟨h1,h2⟩
        · simp [CA.add,h2,boxPs,P2.len]
        · have hb:boxPs (p::ps) kp=boxPs ps (kp+1):=by
            cases p with
            | box ro ws=>cases ro with
              | false=>exact absurd rfl (h1 ws)
              | true=>rfl
            | _=>rfl
          rw [hb]
          simp [CA.add,h2,P2.len]
      · rcases P1.box with ⟨ws0,b,cs,rfl,h2,h3,h4,h5,h6,h7⟩ | ⟨h1,h2⟩
        · cases i with
          | zero=>
            simp only [boxPs,List.getElem?_cons_zero,Option.some.injEq,Prod.mk.injEq] at hi
            obtain ⟨rfl,rfl⟩:=hi
            refine ⟨Nat.le_refl _,b,cs,x,?_,by simp,h3,h4,h5,List.mem_append_left _ h6,fun j hj=>?_⟩
            · show (c1.bs++c2.bs)[0]? =_
              rw [h2];rfl
            · obtain ⟨a,ha,h9⟩:=h7 j hj
              exact ⟨a,List.mem_append_left _ ha,h9⟩
          | succ i=>
            have:=later i k ws (by simpa [boxPs] using hi) 1 (by rw [h2];rfl)
            rwa [show 1+i=i+1 from by omega] at this
        · have hb:boxPs (p::ps) kp=boxPs ps (kp+1):=by
            cases p with
            | box ro ws=>cases ro with
              | false=>exact absurd rfl (h1 ws)
              | true=>rfl
            | _=>rfl
          rw [hb] at hi
          have:=later i k ws hi 0 (by rw [h2];rfl)
          rwa [Nat.zero_add] at this
    · cases h

end

end
section

theorem Kj {P:Program}{f:Nat}(h:Ent P f)(args:Array Value)(w:World):(callFunc f args).run P w= .ok (.enter f args) w:=by
 obtain ⟨fn,h1,h2,h3⟩:=h
 have h2':¬fn.name="runtime.NumGoroutine" :=by simpa using h2
 have h3':¬fn.body=none:=by intro e;rw [e] at h3;cases h3
 simp [callFunc,go_sem,h1,h2',h3']

theorem Kk {P:Program}{a:Act}{o:Oper}{c:Call}{f:Nat}(ho:o.op= .call c)(hc:c.callee= .value (.func f))(h:Ent P f)(w:World):
  (execOp a.eval o).run P w= .ok (.enter f (c.args.map a.eval)) w:=by
 have:execOp a.eval o=callFunc f (#[]++c.args.map a.eval++#[]):=by
  unfold execOp
  simp only [ho]
  obtain ⟨ce,aas,ats⟩:=c
  subst hc
  rfl
 rw [this,Kj h]
 simp

section
variable {w0:World}{own0:Own}{cx:Cx}{own ownE:Own}{w w1:World}{A:CA}{bres:Bool}{back:Leaf→Option Leaf}{u:Up}

theorem uX (hw:WOk w0 own0 cx own w)(hw1:WOk w (dC own A.hs) (BE cx own w.heap.size A bres) ownE w1)(hnd:bE A.aas=true)(hh:gQ A)(hu:u.aff=A.aas)(hmr:∀ a∈A.aas,a.to= .r→a.own= .r)
  {k d off:Nat}{cs:List CS}{ds:List D}{vs:List Value}(hb:QA cs=true→bres=true)(hna:cs.all oN=true)(hback:∀ j,j<cs.length→back (k,j+1)=some (d,off+j+1))
  (h:All3 (aS w1 (BE cx own w.heap.size A bres) ownE k) cs ds vs):All3 (fun j=>aS w1 cx (vS own ownE A.hs back u) d (off+j)) cs ds vs:=by
 refine ⟨h.1,h.2.1,fun j c x v hc hx hv=>?_⟩
 have hj:j<cs.length:=(List.getElem?_eq_some_iff.1 hc).1
 refine UV hw hw1 hnd hh hu hmr (fun e=>hb ?_) (List.all_eq_true.1 hna c (List.mem_of_getElem? hc)) (fun m f _=>hback j hj) (h.2.2 j c x v hc hx hv)
 subst e
 exact List.any_eq_true.2 ⟨.b,List.mem_of_getElem? hc,rfl⟩

end

theorem wM:∀ {ps:List PSh} {kp i k:Nat} {ws:List CS},(boxPs ps kp)[i]? =some (k,ws)→ .box false ws∈ps
 | [],kp,i,k,ws,h=>by simp [boxPs] at h
 | p::ps,kp,i,k,ws,h=>by
  cases p with
  | box ro cs=>
   cases ro with
   | false=>
    cases i with
    | zero=>
     simp only [boxPs,List.getElem?_cons_zero,Option.some.injEq,Prod.mk.injEq] at h
     rw [h.2];exact List.mem_cons_self ..
    | succ i=>exact List.mem_cons_of_mem _ (wM (by simpa [boxPs] using h))
   | true=>exact List.mem_cons_of_mem _ (wM (by simpa [boxPs] using h))
  | _=>exact List.mem_cons_of_mem _ (wM (by simpa [boxPs] using h))

theorem FN {ps:List PSh}{sh:Sh}(h:jD ps=some sh):
  (∃ a cs,ps=[.v a cs]∧sh= .v a cs)∨(∃ cs,ps=[.nbox cs]∧sh= .box false cs)∨(ps.length≠1∧(∀ p∈ps,∃ a cs,p= .v a cs)∧∃ qs,jD.go ps=some qs∧sh= .tup qs):=by
 have go_v:∀ {ps:List PSh} {qs:List (Bool×List CS)},jD.go ps=some qs→∀ p∈ps,∃ a cs,p= .v a cs:=by
  intro ps
  induction ps with
  | nil=>intro qs _ p hp;simp at hp
  | cons p r ih=>
   intro qs hq q hm
   cases p with
   | v a cs=>
    simp only [jD.go] at hq
    cases hg:jD.go r with
    | none=>rw [hg] at hq;cases hq
    | some qs'=>
     rcases List.mem_cons.1 hm with rfl | hm
     ·exact ⟨a,cs,rfl⟩
     ·exact ih hg q hm
   | io a cs=>simp [jD.go] at hq
   | box ro cs=>simp [jD.go] at hq
   | clo f=>simp [jD.go] at hq
   | nbox cs=>simp [jD.go] at hq
 unfold jD at h
 split at h
 ·simp only [Option.some.injEq] at h
  exact .inl ⟨_,_,rfl,h.symm⟩
 ·simp only [Option.some.injEq] at h
  exact .inr (.inl ⟨_,rfl,h.symm⟩)
 ·rename_i h1 h2
  cases hg:jD.go ps with
  | none=>rw [hg] at h;cases h
  | some qs=>
   rw [hg] at h
   simp only [Option.map_some,Option.some.injEq] at h
   refine .inr (.inr ⟨fun hl=>?_,go_v hg,qs,rfl,h.symm⟩)
   match ps,hl with
   | [p],_=>
    obtain ⟨a,cs,e⟩:=go_v hg p (List.mem_singleton.2 rfl)
    exact h1 a cs (by rw [e])

section
variable {sig:Sig}{bs:List (Nat×Sh)}{d:Nat}

theorem Hl {l m:Leaf}(hl:l.1<sig.rs.length){sh:Sh}(hs:jD sig.rs=some sh)(h:hM sig bs d l=some m):
  m.1=d∧∀ l':Leaf,l'.1<sig.rs.length→hM sig bs d l'=some m→l=l':=by
 unfold hM at h
 rw [if_pos hl] at h
 rcases FN hs with ⟨a,cs,e,_⟩ | ⟨cs,e,_⟩ | ⟨hn,hv,_⟩
 ·rw [e] at h hl
  simp only [List.length_singleton] at hl
  dsimp only at h
  split at h
  ·simp only [Option.some.injEq] at h
   subst h
   refine ⟨rfl,fun l' hl' h'=>?_⟩
   unfold hM at h'
   rw [if_pos hl',e] at h'
   rw [e] at hl'
   simp only [List.length_singleton] at hl'
   dsimp only at h'
   split at h'
   ·simp only [Option.some.injEq,Prod.mk.injEq,true_and] at h'
    exact Prod.ext (by omega) h'.symm
   ·cases h'
  ·cases h
 ·rw [e] at h hl
  simp only [List.length_singleton] at hl
  dsimp only at h
  split at h
  ·simp only [Option.some.injEq] at h
   subst h
   refine ⟨rfl,fun l' hl' h'=>?_⟩
   unfold hM at h'
   rw [if_pos hl',e] at h'
   rw [e] at hl'
   simp only [List.length_singleton] at hl'
   dsimp only at h'
   split at h'
   ·simp only [Option.some.injEq,Prod.mk.injEq,true_and] at h'
    exact Prod.ext (by omega) h'.symm
   ·cases h'
  ·cases h
 ·have key:∀ l:Leaf,l.1<sig.rs.length→∀ m,hM sig bs d l=some m→∃ a cs,sig.rs[l.1]? =some (.v a cs)∧1≤l.2∧l.2≤cs.length∧m=(d,GO sig.rs l.1+l.2):=by
   intro l hl m h
   unfold hM at h
   rw [if_pos hl] at h
   split at h
   ·rename_i e;rw [e] at hn;simp at hn
   ·rename_i e;rw [e] at hn;simp at hn
   ·split at h
    ·rename_i cs hk
     split at h
     ·rename_i hc
      simp only [Option.some.injEq] at h
      exact ⟨_,_,hk,hc.1,hc.2,h.symm⟩
     ·cases h
    ·cases h
  have h0:hM sig bs d l=some m:=by unfold hM;rw [if_pos hl];exact h
  obtain ⟨a,cs,e1,e2,e3,rfl⟩:=key l hl m h0
  refine ⟨rfl,fun l' hl' h'=>?_⟩
  obtain ⟨a',cs',k1,k2,k3,k4⟩:=key l' hl' _ h'
  simp only [Prod.mk.injEq,true_and] at k4
  rcases Nat.lt_trichotomy l.1 l'.1 with hlt | heq | hgt
  ·have:=Ls e1 k1 hlt;omega
  ·exact Prod.ext heq (by rw [heq] at k4;omega)
  ·have:=Ls k1 e1 hgt;omega

theorem DT {l m:Leaf}(hl:¬l.1<sig.rs.length)(h:hM sig bs d l=some m):∃ b ws,bs[l.1 - sig.rs.length]? =some (b,.box false ws)∧l.2≤ws.length∧m=(b,l.2):=by
 unfold hM at h
 rw [if_neg hl] at h
 split at h
 ·rename_i b ws hb
  split at h
  ·rename_i hle
   simp only [Option.some.injEq] at h
   exact ⟨b,ws,hb,hle,h.symm⟩
  ·cases h
 ·cases h

end

theorem Bi:∀ {l:List Nat},eM l=true→∀ {i j x:Nat},l[i]? =some x→l[j]? =some x→i=j
 | [],_,i,j,x,h,_=>by simp at h
 | a::r,h,i,j,x,hi,hj=>by
  simp only [eM,Bool.and_eq_true,Bool.not_eq_true'] at h
  have key:∀ y∈r,y≠a:=fun y hy e=>by
   have:=List.any_eq_false.1 h.1 y hy
   rw [e] at this
   exact this (Nat.beq_refl _)
  cases i with
  | zero=>
   cases j with
   | zero=>rfl
   | succ j=>
    simp only [List.getElem?_cons_zero,Option.some.injEq] at hi
    simp only [List.getElem?_cons_succ] at hj
    exact absurd hi.symm (key x (List.mem_of_getElem? hj))
  | succ i=>
   cases j with
   | zero=>
    simp only [List.getElem?_cons_zero,Option.some.injEq] at hj
    simp only [List.getElem?_cons_succ] at hi
    exact absurd hj.symm (key x (List.mem_of_getElem? hi))
   | succ j=>exact congrArg (· +1) (Bi (i:=i) (j:=j) (x:=x) h.2 (by simpa using hi) (by simpa using hj))

structure HandsOk (sig:Sig) (A:CA) (a:Act) (vals:List Value):Prop where
 aff:∀ a∈A.aas,CallAff A a∧∀ m f,a.own= .o m f→∃ l',((a.h,a.i+1),l')∈A.hs
 len:A.bs.length=(boxPs sig.ps 0).length
 box:∀ (i k:Nat) (ws:List CS),(boxPs sig.ps 0)[i]? =some (k,ws)→∃ b,A.bs[i]? =some (b,.box false ws)∧tvL vals k=tvA a b∧((b,0),(k,0))∈A.hs∧∀ j,j<ws.length→∃ a∈A.aas,a.h=b∧a.i=j

theorem ZS {sig:Sig}{A:CA}{d:Nat}{sh:Sh}{u:Up}{a:Act}{vals:List Value}(hs:jD sig.rs=some sh)(hP:HandsOk sig A a vals)(hnd:bE A.aas=true)(hdn:eM (A.bs.map (·.1))=true)
  (hbd:∀ b∈A.bs,b.1≠d)(hu:u={aff:=A.aas,bx:=A.bs,dst:=some (d,sh) }):BackOk u A (hM sig A.bs d):=by
 refine ⟨fun l l' m h h'=>?_,fun l m h=>?_⟩
 ·by_cases hl:l.1<sig.rs.length
  ·obtain ⟨h1,h2⟩:=Hl hl hs h
   by_cases hl':l'.1<sig.rs.length
   ·exact h2 l' hl' h'
   ·obtain ⟨b,ws,h3,_,rfl⟩:=DT hl' h'
    exact absurd h1 (hbd _ (List.mem_of_getElem? h3))
  ·obtain ⟨b,ws,h3,_,rfl⟩:=DT hl h
   by_cases hl':l'.1<sig.rs.length
   ·exact absurd (Hl hl' hs h').1 (hbd _ (List.mem_of_getElem? h3))
   ·obtain ⟨b',ws',h5,_,h6⟩:=DT hl' h'
    simp only [Prod.mk.injEq] at h6
    obtain ⟨rfl,h7⟩:=h6
    have:=Bi hdn (i:=l.1 - sig.rs.length) (j:=l'.1 - sig.rs.length) (x:=b) (by rw [List.getElem?_map,h3];rfl) (by rw [List.getElem?_map,h5];rfl)
    exact Prod.ext (by omega) h7
 ·by_cases hl:l.1<sig.rs.length
  ·exact .inl (by rw [Up.isDst_iff,hu,(Hl hl hs h).1];rfl)
  ·obtain ⟨b,ws,h3,h4,rfl⟩:=DT hl h
   refine .inr ⟨_,List.mem_of_getElem? h3,rfl,?_⟩
   cases hl2:l.2 with
   | zero=>exact .inl rfl
   | succ k=>
    refine .inr ⟨k,rfl,?_⟩
    have hi:l.1 - sig.rs.length<(boxPs sig.ps 0).length:=by rw [←hP.len];exact (List.getElem?_eq_some_iff.1 h3).1
    obtain ⟨b',k1,_,_,k7⟩:=hP.box (l.1 - sig.rs.length) (boxPs sig.ps 0)[l.1 - sig.rs.length].1 (boxPs sig.ps 0)[l.1 - sig.rs.length].2 (by rw [List.getElem?_eq_getElem hi])
    rw [h3] at k1
    simp only [Option.some.injEq,Prod.mk.injEq,Sh.box.injEq,true_and] at k1
    obtain ⟨rfl,k5⟩:=k1
    rw [k5] at h4
    obtain ⟨a,ha,e1,e2⟩:=k7 k (by omega)
    have:=iF (u:=u) (by rw [hu];exact hnd) (by rw [hu];exact ha)
    rw [e1,e2] at this
    rw [this];rfl

end
section

theorem xP:∀ {ps:List PSh} {k:Nat} {q:Nat×Sh},q∈CG ps k→∃ i p,ps[i]? =some p∧q=(k+i,xH p)
 | [],k,q,h=>by simp [CG] at h
 | p::r,k,q,h=>by
  simp only [CG,List.mem_cons] at h
  rcases h with rfl | h
  ·exact ⟨0,p,rfl,rfl⟩
  ·obtain ⟨i,p',h1,h2⟩:=xP h
   exact ⟨i+1,p',by simpa using h1,by rw [h2];congr 1;omega⟩

theorem XB {rv:List Value}{n:Nat}(h:rv.length=n)(hn:n≠1):retV rv= .tuple rv.toArray:=by
 match rv,h with
 | [],_=>rfl
 | [v],h=>simp at h;omega
 | a::b::r,_=>rfl

theorem Sig.fine_rs {sig:Sig}(h:sig.fine=true){k:Nat}{a:Bool}{cs:List CS}(hk:sig.rs[k]? =some (.v a cs)):cs.all oN=true:=by
 unfold Sig.fine at h
 simp only [Bool.and_eq_true] at h
 exact List.all_eq_true.1 h.1 _ (List.mem_of_getElem? hk)

theorem Sig.fine_nb {sig:Sig}(h:sig.fine=true){k:Nat}{cs:List CS}(hk:sig.rs[k]? =some (.nbox cs)):cs.all oN=true:=by
 unfold Sig.fine at h
 simp only [Bool.and_eq_true] at h
 exact List.all_eq_true.1 h.1 _ (List.mem_of_getElem? hk)

theorem Sig.fine_box {sig:Sig}(h:sig.fine=true){cs:List CS}(hk: .box false cs∈sig.ps):cs.all oN=true:=by
 unfold Sig.fine at h
 simp only [Bool.and_eq_true] at h
 exact List.all_eq_true.1 h.2 _ hk

theorem Sig.bres_rs {sig:Sig}{k:Nat}{a:Bool}{cs:List CS}(hk:sig.rs[k]? =some (.v a cs))(h:QA cs=true):sig.bres=true:=by
 unfold Sig.bres
 simp only [Bool.or_eq_true]
 exact .inl (List.any_eq_true.2 ⟨_,List.mem_of_getElem? hk,h⟩)

theorem Sig.bres_nb {sig:Sig}{k:Nat}{cs:List CS}(hk:sig.rs[k]? =some (.nbox cs))(h:QA cs=true):sig.bres=true:=by
 unfold Sig.bres
 simp only [Bool.or_eq_true]
 exact .inl (List.any_eq_true.2 ⟨_,List.mem_of_getElem? hk,h⟩)

theorem Sig.bres_box {sig:Sig}{cs:List CS}(hk: .box false cs∈sig.ps)(h:QA cs=true):sig.bres=true:=by
 unfold Sig.bres
 simp only [Bool.or_eq_true]
 exact .inr (List.any_eq_true.2 ⟨_,hk,h⟩)

section
variable {P:Program}{C:Cfg}{W:Wld}{w0:World}{own0:Own}{cx:Cx}{own:Own}{w:World}{a:Act}{env env':Env}{L:Look}{g:Gd}{o:Oper}{u:Up}{p:PS}{d:Nat}

theorem Kl (hw:WOk w0 own0 cx own w)(hd:d<a.tmps.size)(hod:o.dst=some d){sig:Sig}{A:CA}{sh:Sh}{vals:List Value}{v:Value}{w1:World}{ownE:Own}{rs xs:List (List D)}
  (hu:{aff:=A.aas,bx:=A.bs,dst:=some (d,sh) }=u)(hsh:jD sig.rs=some sh)(hfine:sig.fine=true)(hnd:bE A.aas=true)(hds:eT (zF A.hs)=true)(hdn:eM (A.bs.map (·.1))=true)(hh:gQ A)
  (hbd':∀ b∈A.bs,b.1≠d)(hPt:HandsOk sig A a vals)(hrl:rs.length=sig.rs.length)(hxl:xs.length=(A.bs.map (·.1)).length)
  (hw1:WOk w (dC own A.hs) (BE cx own w.heap.size A sig.bres) ownE w1)(hres:AA w1 (BE cx own w.heap.size A sig.bres) ownE sig (rs++xs) vals v):
  Done cx own w a env u (vS own ownE A.hs (hM sig A.bs d) u) w1 (a.put o.dst v) (put (iZ env (A.bs.map (·.1)) xs) d rs.flatten):=by
 have hau:u.aff=A.aas:=by rw [←hu]
 have hbu:u.bx=A.bs:=by rw [←hu]
 have hdu:u.d=some d:=by rw [←hu];rfl
 have hmr:∀ a∈A.aas,a.to= .r→a.own= .r:=fun a ha hr=>by
  rcases (hPt.aff a ha).1 with h | h | h
  ·exact h.2
  ·rw [h.1] at hr;cases hr
  ·rw [h.1] at hr;cases hr
 unfold AA at hres
 rw [Sig.fine_io hfine] at hres
 obtain ⟨hlen,rv,hrvl,rfl,hrs,hbx⟩:=hres
 have hbk:=ZS hsh hPt hnd hdn hbd' hu.symm
 have hal:∀ a∈A.aas,∀ d j m f,a.to≠ .al d j m f:=fun a ha d j m f e=>by
  rcases (hPt.aff a ha).1 with h | h | h<;>rw [h.1] at e<;>cases e
 have hbox:∀ b∈A.bs,∃ l',dU A.hs (b.1,0)=some l':=fun b hb=>by
  obtain ⟨i,hi⟩:=List.getElem?_of_mem hb
  have hib:i<(boxPs sig.ps 0).length:=by rw [←hPt.len];exact (List.getElem?_eq_some_iff.1 hi).1
  obtain ⟨b',q1,_,q6,_⟩:=hPt.box i (boxPs sig.ps 0)[i].1 (boxPs sig.ps 0)[i].2 (by rw [List.getElem?_eq_getElem hib])
  rw [hi] at q1
  simp only [Option.some.injEq] at q1
  subst q1
  exact ⟨_,mX hds q6⟩
 have hkeep:∀ a∈A.aas,∀ m f,a.own= .o m f→∃ l',dU A.hs (a.h,a.i+1)=some l':=fun a ha m f e=>by
  obtain ⟨l',hl⟩:=(hPt.aff a ha).2 m f e
  exact ⟨l',mX hds hl⟩
 have hxl':xs.length=A.bs.length:=by simpa using hxl
 have henv:∀ s,¬u.W s→put (iZ env (A.bs.map (·.1)) xs) d rs.flatten s=env s:=fun s hs=>by
  have h1:s≠d:=fun e=>hs (.inl (by rw [Up.isDst_iff,hdu,e]))
  rw [cY _ _ _ _ h1,EQ (fun hm=>?_)]
  obtain ⟨b,hb,rfl⟩:=List.mem_map.1 hm
  exact hs (.inr ⟨b,by rw [hbu];exact hb,rfl⟩)
 have htv:∀ s,u.d≠some s→tvA (a.put (some d) (retV rv)) s=tvA a s:=fun s hs=>by
  rw [aQ a d _ hd,if_neg (fun e=>hs (by rw [hdu,e]))]
 have st:=UU (env:=env) (tv:=tvA a) (env':=put (iZ env (A.bs.map (·.1)) xs) d rs.flatten) (tv':=tvA (a.put (some d) (retV rv))) (back:=hM sig A.bs d) hw hw1 hnd hh hau hbu hal hbk hbox hkeep henv htv
 have hndst:∀ b∈A.bs,u.isDst b.1=false:=fun b hb=>by
  cases hq:u.isDst b.1 with
  | false=>rfl
  | true=>
   rw [Up.isDst_iff,hdu] at hq
   simp only [Option.some.injEq] at hq
   exact absurd hq.symm (hbd' b hb)
 have af:=Wy hw hw1 hnd hh hau hbu (fun a ha=>(hPt.aff a ha).1) hndst st
 have houts:∀ k,k<sig.rs.length→envL (rs++xs) k=rs.getD k []:=fun k hk=>by
  unfold envL
  rw [List.getD_eq_getElem?_getD,List.getD_eq_getElem?_getD,List.getElem?_append_left (by omega)]
 rw [hod]
 refine ⟨st,af,fun b hb _=>?_,fun d' sh' hds'=>?_,by simp [Act.put],rfl⟩
 ·rw [hbu] at hb
  obtain ⟨i,hi⟩:=List.getElem?_of_mem hb
  have hib:i<(boxPs sig.ps 0).length:=by rw [←hPt.len];exact (List.getElem?_eq_some_iff.1 hi).1
  have hq0:(boxPs sig.ps 0)[i]? =some ((boxPs sig.ps 0)[i].1,(boxPs sig.ps 0)[i].2):=by rw [List.getElem?_eq_getElem hib]
  obtain ⟨b',q1,q2,q6,q7⟩:=hPt.box i _ _ hq0
  have hmem:=wM hq0
  rw [hi] at q1
  simp only [Option.some.injEq] at q1
  subst q1
  obtain ⟨gg,cur,T,r1,r2,r3,r4⟩:=hbx i _ hq0
  dsimp only at r3
  simp only [Bool.false_eq_true,if_false] at r4
  have htvb:tvA (a.put (some d) (retV rv)) b'= .pointer (some ⟨gg,0,none⟩):=by
   rw [aQ a d _ hd,if_neg (hbd' _ hb),←q2,←r1]
   conv=>rhs;unfold tvL
   rw [List.getD_eq_getElem?_getD,List.getElem?_append_right (by omega),hrvl,Nat.add_sub_cancel_left,List.getElem?_map,List.getElem?_eq_getElem hib]
   rfl
  have hback:∀ j,j≤(boxPs sig.ps 0)[i].2.length→hM sig A.bs d (sig.rs.length+i,j)=some (b',j):=fun j hj=>by
   unfold hM
   rw [if_neg (by simp)]
   dsimp only
   rw [Nat.add_sub_cancel_left,hi]
   simp [hj]
  have henvb:put (iZ env (A.bs.map (·.1)) xs) d rs.flatten b'=xs.getD i []:=by
   rw [cY _ _ _ _ (hbd' _ hb)]
   have hix:i<xs.length:=by rw [hxl'];exact (List.getElem?_eq_some_iff.1 hi).1
   rw [Hi (c:=xs[i]) hdn hxl (i:=i) (by rw [List.getElem?_map,hi];rfl) (List.getElem?_eq_getElem hix)]
   simp [List.getD_eq_getElem?_getD,hix]
  have henvo:envL (rs++xs) (sig.rs.length+i)=xs.getD i []:=by
   unfold envL
   rw [List.getD_eq_getElem?_getD,List.getElem?_append_right (by omega),hrl,Nat.add_sub_cancel_left,List.getD_eq_getElem?_getD]
  refine ⟨gg,cur,T,htvb,r2,?_,?_⟩
  ·rw [henvb,←henvo]
   have:=uX (d:=b') (off:=0) (back:=hM sig A.bs d) hw hw1 hnd hh hau hmr (fun hbb=>Sig.bres_box hmem hbb) (Sig.fine_box hfine hmem) (fun j hj=>by rw [hback (j+1) (by omega)];simp) r3
   simpa using this
  ·simp only [Bool.false_eq_true,if_false]
   unfold vS
   rw [r4]
   simp [hback 0 (Nat.zero_le _)]
 ·have hds2:u.dst=some (d,sh):=by rw [←hu]
  rw [hds2] at hds'
  simp only [Option.some.injEq,Prod.mk.injEq] at hds'
  obtain ⟨rfl,rfl⟩:=hds'
  have htvd:∀ v,tvA (a.put (some d) v) d=v:=fun v=>by rw [aQ a d _ hd,if_pos rfl]
  have hsk:∀ k v,rv[k]? =some v→tvL (rv++(boxPs sig.ps 0).map fun b=>tvL vals b.1) k=v:=fun k v hk=>by
   unfold tvL
   rw [List.getD_eq_getElem?_getD,List.getElem?_append_left (List.getElem?_eq_some_iff.1 hk).1,hk];rfl
  rcases FN hsh with ⟨ag,cs,e1,e2⟩ | ⟨cs,e1,e2⟩ | ⟨hn,hv,qs,e1,e2⟩
  ·have hl1:sig.rs.length=1:=by rw [e1];rfl
   obtain ⟨v,rfl⟩:=List.length_eq_one_iff.1 (hrvl.trans hl1)
   obtain ⟨r,rfl⟩:=List.length_eq_one_iff.1 (hrl.trans hl1)
   have h0:=hrs 0 (.v ag cs) (by rw [e1];rfl)
   rw [e2]
   obtain ⟨vs,m1,m2,m3⟩:=h0
   refine ⟨vs,?_,m2,?_⟩
   ·rw [htvd,←m1,hsk 0 v rfl];rfl
   ·rw [aI]
    have:=uX (d:=d) (off:=0) (back:=hM sig A.bs d) hw hw1 hnd hh hau hmr (fun hbb=>Sig.bres_rs (k:=0) (by rw [e1];rfl) hbb) (Sig.fine_rs (k:=0) hfine (by rw [e1];rfl)) (fun j hj=>by
     unfold hM
     rw [if_pos (by simp [hl1]),e1]
     dsimp only
     rw [if_pos (by omega)];simp) m3
    simp only [Nat.zero_add] at this
    simpa [envL] using this
  ·have hl1:sig.rs.length=1:=by rw [e1];rfl
   obtain ⟨v,rfl⟩:=List.length_eq_one_iff.1 (hrvl.trans hl1)
   obtain ⟨r,rfl⟩:=List.length_eq_one_iff.1 (hrl.trans hl1)
   have h0:=hrs 0 (.nbox cs) (by rw [e1];rfl)
   rw [e2]
   obtain ⟨gg,cur,T,m1,m2,m3,m4⟩:=h0
   simp only [Bool.false_eq_true,if_false] at m4
   refine ⟨gg,cur,T,?_,m2,?_,?_⟩
   ·rw [htvd,←m1,hsk 0 v rfl];rfl
   ·rw [aI]
    have:=uX (d:=d) (off:=0) (back:=hM sig A.bs d) hw hw1 hnd hh hau hmr (fun hbb=>Sig.bres_nb (k:=0) (by rw [e1];rfl) hbb) (Sig.fine_nb (k:=0) hfine (by rw [e1];rfl)) (fun j hj=>by
     unfold hM
     rw [if_pos (by simp [hl1]),e1]
     dsimp only
     rw [if_pos (by omega)];simp) m3
    simp only [Nat.zero_add] at this
    simpa [envL] using this
   ·simp only [Bool.false_eq_true,if_false]
    unfold vS
    rw [m4]
    have:hM sig A.bs d (0,0)=some (d,0):=by
     unfold hM
     rw [if_pos (by simp [hl1]),e1]
     simp
    simp [this]
  ·rw [e2]
   obtain ⟨vss,m1,m2,m3,m4⟩:=Wz (Q:=aS w1 cx (vS own ownE A.hs (hM sig A.bs d) u) d) (off:=0) e1 hrl hrvl (fun k ag cs r v hk hr hvk=>by
    have h0:=hrs k (.v ag cs) hk
    obtain ⟨vs,n1,n2,n3⟩:=h0
    have hkl:k<sig.rs.length:=(List.getElem?_eq_some_iff.1 hk).1
    refine ⟨vs,by rw [←n1,hsk k v hvk],n2,?_⟩
    have:=uX (d:=d) (off:=GO sig.rs k) (back:=hM sig A.bs d) hw hw1 hnd hh hau hmr (fun hbb=>Sig.bres_rs hk hbb) (Sig.fine_rs hfine hk) (fun j hj=>by
     unfold hM
     rw [if_pos hkl]
     split
     ·rename_i e;rw [e] at hn;simp at hn
     ·rename_i e;rw [e] at hn;simp at hn
     ·dsimp only
      rw [hk]
      dsimp only
      rw [if_pos (by omega)];rfl) n3
    rw [houts k hkl,List.getD_eq_getElem?_getD,hr] at this
    simpa using this)
   refine ⟨vss,?_,m2,m3,?_⟩
   ·rw [htvd,XB hrvl hn,m1]
   ·rw [aI]
    simpa using m4

theorem ZT (hw:WOk w0 own0 cx own w)(hG:∀ g,cx.N g→W.G≤g)(hP:W.P w)(hL:∀ z,SlotOk w cx own env (tvA a) z (L z))(hg:∀ gs b,g=some (gs,b)→env gs=[.bool b])
  (hod:o.dst=some d)(hd:d<a.tmps.size){c:Call}{f:Nat}{sig:Sig}(ho:o.op= .call c)(hce:c.callee= .value (.func f)){Φ:Ask}(hΦ:∀ ins outs,Φ f sig ins outs→FunOk P W f sig ins outs)
  (hc:QB L g d f sig c.args.toList=some (u,p))(hp:cG Φ p env env'):xN P cx own w a env o u env':=by
 unfold QB at hc
 split at hc
 ·rename_i A sh hA hsh
  split at hc
  ·rename_i hok
   simp only [Option.some.injEq,Prod.mk.injEq] at hc
   obtain ⟨hu,rfl⟩:=hc
   simp only [Bool.and_eq_true] at hok
   obtain ⟨hok,hfine⟩:=hok
   unfold CA.ok at hok
   simp only [Bool.and_eq_true] at hok
   obtain ⟨⟨⟨⟨⟨⟨⟨hnd,hds⟩,hdst⟩,hdn⟩,hrd⟩,hdp⟩,had⟩,hbd⟩:=hok
   obtain ⟨k1,k2,hh,k4⟩:=EP hA
   have hPt:=FM (B:=A) hA (fun q hq=>hq)
   simp only [cG] at hp
   obtain ⟨rs,xs,hphi,hrl,hxl,rfl⟩:=hp
   obtain ⟨hent,hfun⟩:=hΦ _ _ hphi
   have hbd':∀ b∈A.bs,b.1≠d:=fun b hb e=>by
    have:=List.all_eq_true.1 hbd b hb
    simp only [Bool.not_eq_true'] at this
    rw [e,show Nat.beq d d=true from Nat.beq_refl d] at this
    cases this
   have hvl:(c.args.map a.eval).toList.length=sig.ps.length:=by simp [←k1]
   have hins:(A.os.map (·.get env)).length=sig.ps.length:=by simp [k2]
   have hwc:=Hh (bres:=sig.bres) hw hnd hh hdst
   intro K Q hK
   unfold Oper.wp
   rw [Kk ho hce hent]
   show Calls P f (c.args.map a.eval) w _
   have hinv:Inv (rQ sig) w (BE cx own w.heap.size A sig.bres) (dC own A.hs) (envL (A.os.map (·.get env))) (tvL (c.args.map a.eval).toList):=by
    intro q hq
    obtain ⟨i,p,hi,rfl⟩:=xP hq
    rw [Nat.zero_add]
    have hil:i<c.args.toList.length:=by rw [k1];exact (List.getElem?_eq_some_iff.1 hi).1
    obtain ⟨ca,m1,m2,oo,m3,m4⟩:=k4 i _ p (List.getElem?_eq_getElem hil) hi
    rw [Nat.zero_add] at m1
    obtain ⟨o',n1,n2⟩:=TN (E:=envL (A.os.map (·.get env))) (T:=tvL (c.args.map a.eval).toList) hw hL hg hnd hh hds hrd hdp m1 m2
    rw [m3] at n1
    simp only [List.cons.injEq,and_true] at n1
    subst n1
    refine n2 ?_ ?_
    ·simp [envL,m4]
    ·have hil':i<c.args.size:=by simpa using hil
     simp [tvL,hil']
   have hcall:=hfun w (dC own A.hs) (BE cx own w.heap.size A sig.bres) (c.args.map a.eval).toList hP hwc (fun gg j hj=>by
    obtain ⟨i,h1,h2,_⟩:=mY hj
    refine ⟨hG _ (hw.dom gg i h1).2,?_⟩
    have:=(hPt.dst _ (fM h2)).2
    simpa using this) hvl hins hinv
   rw [Array.toArray_toList] at hcall
   refine Calls.mono hcall ?_
   rintro e w1 ⟨v,ownE,rfl,hw1,hres⟩
   refine hK _ w1 (a.put o.dst v) (Kl hw hd hod hu hsh hfine hnd hds hdn hh hbd' ⟨hPt.aff,hPt.len,fun i k ws hi=>?_⟩ hrl hxl hw1 hres)
   obtain ⟨_,b',cs,x,q1,q2,q3,q4,q5,q6,q7⟩:=hPt.box i k ws hi
   refine ⟨b',q1,?_,q6,fun j hj=>q7 j (by omega)⟩
   rw [←NW hL hg q3 q4]
   have hk:k<c.args.size:=by
    have:=(List.getElem?_eq_some_iff.1 q2).1
    simpa using this
   have hx:x=c.args[k]:=by
    have:=(List.getElem?_eq_some_iff.1 q2).2
    simpa using this.symm
   simp [tvL,hx,hk]
  ·cases hc
 ·cases hc

end

end
section

theorem QP {P:Program}{a:Act}{o:Oper}{c:Call}{s f:Nat}(ho:o.op= .call c)(hc:c.callee= .value (.tmp s))(h:Ent P f)(w:World){first captured:Array Value}
  (hs:tvA a s= .func (.func f) first captured):(execOp a.eval o).run P w= .ok (.enter f (first++c.args.map a.eval++captured)) w:=by
 have:execOp a.eval o=callFunc f (first++c.args.map a.eval++captured):=by
  unfold execOp
  simp only [ho]
  obtain ⟨ce,aas,ats⟩:=c
  subst hc
  show (do let d ←Deferred.ofValue (a.eval (.tmp s)) (aas.map a.eval);invoke d.target d.args)=_
  rw [show a.eval (.tmp s)=tvA a s from rfl,hs]
  rfl
 rw [this,Kj h]

theorem Rep.fn' {w:World}{S:Nat→Nat→Prop}{f:Nat}{fs:List (Bool×List D)}{cs:List (List D)}{v:Value}(h:Rep w S (.fn f fs cs) v):
  ∃ (fvs:List (List Value)) (bl:List Nat) (cvs:Nat→Nat→Value),fvs.length=fs.length∧bl.length=cs.length∧
   (∀ (i:Nat) (p:Bool×List D) (vs:List Value),fs[i]? =some p→fvs[i]? =some vs→vs.length=p.2.length∧(p.1=false→vs.length=1))∧
   (∀ (i:Nat) (p:Bool×List D) (vs:List Value) (j:Nat) (d:D) (v:Value),fs[i]? =some p→fvs[i]? =some vs→p.2[j]? =some d→vs[j]? =some v→Rep w S d v)∧
   (∀ (i:Nat) (c:List D) (g:Nat),cs[i]? =some c→bl[i]? =some g→∃ (cur:Array Value) (T:TypeId),w.heap[g]? =some (Obj.cells cur T (0,0))∧cur.size=c.length)∧
   (∀ (i:Nat) (c:List D) (g j:Nat) (d:D),cs[i]? =some c→bl[i]? =some g→c[j]? =some d→w.cell? ⟨g,j,none⟩=some (cvs i j)∧S g j)∧
   (∀ (i:Nat) (c:List D) (g j:Nat) (d:D),cs[i]? =some c→bl[i]? =some g→c[j]? =some d→Rep w S d (cvs i j))∧
   v= .func (.func f) ((fs.zip fvs).map fun p=>wrapV p.1.1 p.2).toArray (bl.map fun g=>Value.pointer (some ⟨g,0,none⟩)).toArray:=by
 cases h with
 | scal h=>cases h
 | fn _ _ _ fvs bl cvs h1 h2 h3 h4 h5 h6 h7=>exact ⟨fvs,bl,cvs,h1,h2,h3,h4,h5,h6,h7,rfl⟩

theorem Lt {d:D}(h:oW d=true):(∃ k n,d= .int k n)∨(∃ b,d= .bool b)∨∃ s,d= .str s:=by
 cases d<;>simp [oW] at h ⊢

theorem XC {w:World}{cx:Cx}{own:Own}{s i:Nat}{c:CS}{d:D}{v:Value}(h:okW c d=true)(hr:Rep w (BS cx own) d v):aS w cx own s i c d v:=by
 refine ⟨hr.cell1,?_⟩
 cases c<;>simp [okW] at h
 ·exact hr.scal' (Lt h)
 ·exact hr
 ·trivial

theorem Hm:∀ {ws:List CS} {ds:List D},HU ws ds=true→ws.length=ds.length∧∀ (j:Nat) (c:CS) (d:D),ws[j]? =some c→ds[j]? =some d→okW c d=true
 | [],[],_=>⟨rfl,fun j c d h=>by simp at h⟩
 | [],_::_,h=>by cases h
 | _::_,[],h=>by cases h
 | w::ws,d::ds,h=>by
  simp only [HU,Bool.and_eq_true] at h
  obtain ⟨h1,h2⟩:=Hm h.2
  refine ⟨by simp [h1],fun j c e hc he=>?_⟩
  cases j with
  | zero=>
   simp only [List.getElem?_cons_zero,Option.some.injEq] at hc he
   rw [←hc,←he];exact h.1
  | succ j=>exact h2 j c e (by simpa using hc) (by simpa using he)

theorem Bj:∀ {ps:List PSh} {fs:List (Bool×List D)},kX ps fs=true→ps.length=fs.length∧∀ (i:Nat) (p:PSh) (q:Bool×List D),ps[i]? =some p→fs[i]? =some q→∃ ws,p= .v q.1 ws∧HU ws q.2=true
 | [],[],_=>⟨rfl,fun i p q h=>by simp at h⟩
 | [],_::_,h=>by simp [kX] at h
 | p::ps,[],h=>by cases p<;>simp [kX] at h
 | p::ps,(b,ds)::fs,h=>by
  cases p with
  | v a ws=>
   simp only [kX,Bool.and_eq_true,beq_iff_eq] at h
   obtain ⟨h1,h2⟩:=Bj h.2
   refine ⟨by simp [h1],fun i p q hp hq=>?_⟩
   cases i with
   | zero=>
    simp only [List.getElem?_cons_zero,Option.some.injEq] at hp hq
    rw [←hp,←hq]
    exact ⟨ws,by rw [h.1.1],h.1.2⟩
   | succ i=>exact h2 i p q (by simpa using hp) (by simpa using hq)
  | _=>simp [kX] at h

theorem FO:∀ {ps:List PSh} {cs:List (List D)},nK ps cs=true→ps.length=cs.length∧∀ (i:Nat) (p:PSh) (q:List D),ps[i]? =some p→cs[i]? =some q→∃ ws,p= .box true ws∧HU ws q=true
 | [],[],_=>⟨rfl,fun i p q h=>by simp at h⟩
 | [],_::_,h=>by simp [nK] at h
 | p::ps,[],h=>by
  cases p with
  | box ro ws=>cases ro<;>simp [nK] at h
  | _=>simp [nK] at h
 | p::ps,ds::cs,h=>by
  cases p with
  | box ro ws=>
   cases ro with
   | false=>simp [nK] at h
   | true=>
    simp only [nK,Bool.and_eq_true] at h
    obtain ⟨h1,h2⟩:=FO h.2
    refine ⟨by simp [h1],fun i p q hp hq=>?_⟩
    cases i with
    | zero=>
     simp only [List.getElem?_cons_zero,Option.some.injEq] at hp hq
     rw [←hp,←hq]
     exact ⟨ws,rfl,h.1⟩
    | succ i=>exact h2 i p q (by simpa using hp) (by simpa using hq)
  | _=>simp [nK] at h

theorem Km:∀ {ws:List CS} {ds:List D},HU ws ds=true→∀ c∈ws,c= .s∨c= .b∨c= .x
 | [],_,_,c,hc=>by simp at hc
 | w::ws,[],h,_,_=>by cases h
 | w::ws,d::ds,h,c,hc=>by
  simp only [HU,Bool.and_eq_true] at h
  rcases List.mem_cons.1 hc with rfl | hc
  ·cases c<;>simp [okW] at h ⊢
  ·exact Km h.2 c hc

theorem ER {w:World}{cx:Cx}{own:Own}(hn:∀ g,own g=none){s s' i:Nat}{c:CS}{d:D}{v:Value}(h:aS w cx own s i c d v):aS w cx own s' i c d v:=by
 refine ⟨h.1,?_⟩
 have h2:=h.2
 cases c with
 | o m f=>
  cases h2 with
  | nil=>exact .nil
  | sl xs g cap cur T fr vs h1 h2=>rw [hn] at h2;cases h2
  | ip xs v hf h1=>exact .ip xs v hf (InRep.keep (lf:=(s,i+1)) h1 (fun g i hi _=>by rw [hn] at hi;cases hi))
 | _=>exact h2

theorem UX {w:World}{cx:Cx}{own:Own}(hn:∀ g,own g=none){E E':Env}{T T':Nat→Value}{s s':Nat}(hE:E s=E' s')(hT:T s=T' s'){p:PSh}(hp:∀ ws,p≠ .box false ws)(h:SlotOk w cx own E T s (xH p)):SlotOk w cx own E' T' s' (xH p):=by
 cases p with
 | v a cs=>
  obtain ⟨vs,h1,h2,h3⟩:=h
  rw [hE] at h3;rw [hT] at h1
  exact ⟨vs,h1,h2,h3.imp fun i c d v h=>ER hn h⟩
 | io a cs=>
  obtain ⟨vs,h1,h2,h3⟩:=h
  rw [hE] at h3;rw [hT] at h1
  exact ⟨vs,h1,h2,h3.imp fun i c d v h=>ER hn h⟩
 | box ro cs=>
  cases ro with
  | false=>exact absurd rfl (hp cs)
  | true=>
   obtain ⟨g,cur,Ty,h1,h2,h3,h4⟩:=h
   rw [hE] at h3;rw [hT] at h1
   exact ⟨g,cur,Ty,h1,h2,h3.imp fun i c d v h=>ER hn h,h4⟩
 | clo f=>
  obtain ⟨fs,cs,h1,h2⟩:=h
  rw [hE] at h1;rw [hT] at h2
  exact ⟨fs,cs,h1,h2⟩
 | nbox cs=>trivial

theorem ES:∀ {ps:List PSh} {k:Nat},(∀ p∈ps,∀ ws,p≠ .box false ws)→boxPs ps k=[]
 | [],_,_=>rfl
 | p::ps,k,h=>by
  have ih:=ES (ps:=ps) (k:=k+1) (fun q hq=>h q (List.mem_cons_of_mem _ hq))
  cases p with
  | box ro ws=>
   cases ro with
   | false=>exact absurd rfl (h _ (List.mem_cons_self ..) ws)
   | true=>exact ih
  | _=>exact ih

section
variable {P:Program}{C:Cfg}{W:Wld}{w0:World}{own0:Own}{cx:Cx}{own:Own}{w:World}{a:Act}{env env':Env}{L:Look}{g:Gd}{o:Oper}{u:Up}{p:PS}{d:Nat}

theorem UY {bres:Bool}{x:Operand}{p:PSh}{kp:Nat}{c:CA}(h:Cu L g bres x p kp=some c):(∀ ws,p≠ .box true ws)∧(c.hs=[]→∀ ws,p≠ .box false ws):=by
 unfold Cu at h
 split at h
 ·exact ⟨fun ws=>by simp,fun _ ws=>by simp⟩
 ·split at h
  ·split at h
   ·split at h
    ·simp only [Option.some.injEq] at h
     subst h
     exact ⟨fun ws=>by simp,fun hb=>by simp at hb⟩
    ·cases h
   ·cases h
  ·cases h
 ·exact ⟨fun ws=>by simp,fun _ ws=>by simp⟩
 ·cases h

theorem XD (hw:WOk w0 own0 cx own w)(hG:∀ g,cx.N g→W.G≤g)(hP:W.P w)(hL:∀ z,SlotOk w cx own env (tvA a) z (L z))(hg:∀ gs b,g=some (gs,b)→env gs=[.bool b])
  (hod:o.dst=some d)(hd:d<a.tmps.size){c:Call}{s f:Nat}{deps:List Nat}{sig:Sig}(ho:o.op= .call c)(hce:c.callee= .value (.tmp s))(hsh0:sP L g s= .clo f deps){Φ:Ask}(hΦ:∀ ins outs,Φ f sig ins outs→FunOk P W f sig ins outs)
  (hc:QC L g d s f sig c.args.toList=some (u,p))(hp:cG Φ p env env'):xN P cx own w a env o u env':=by
 unfold QC at hc
 split at hc
 ·cases hc
 rename_i hbres
 split at hc
 ·rename_i A sh hA hsh
  split at hc
  ·rename_i hAas hAhs hAbs hfine
   simp only [bS,Option.some.injEq,Prod.mk.injEq] at hc
   obtain ⟨hu,rfl⟩:=hc
   simp only [cG] at hp
   obtain ⟨fs,cs,rs,hes,hlen,hcaps,hff,hcf,hphi,hrl,rfl⟩:=hp
   obtain ⟨hent,hfun⟩:=hΦ _ _ hphi
   obtain ⟨k1,k2,hh,k4⟩:=EP hA
   have hslot:=eV hL hg s
   rw [hsh0] at hslot
   obtain ⟨fs',cs',he',hrep⟩:=hslot
   rw [hes] at he'
   simp only [List.cons.injEq,D.fn.injEq,true_and,and_true] at he'
   obtain ⟨rfl,rfl⟩:=he'
   have hA':A={os:=A.os,rd:=A.rd,deps:=A.deps }:=by
    obtain ⟨a1,a2,a3,a4,a5,a6⟩:=A
    simp only at hAas hAhs hAbs
    subst hAas;subst hAhs;subst hAbs
    rfl
   have hnd:bE A.aas=true:=by rw [hAas];rfl
   have hds:eT (zF A.hs)=true:=by rw [hAhs];rfl
   have hdst:eT (A.hs.map (·.2))=true:=by rw [hAhs];rfl
   have hrd:A.rd.all (fun l=> !((zF A.hs).any (gP l)))=true:=by rw [hAhs];simp [zF]
   have hdp:A.deps.all (fun x=> !((zF A.hs).any (fun l=>Nat.beq l.1 x)))=true:=by rw [hAhs];simp [zF]
   have hownC:∀ gg,dC own A.hs gg=none:=fun gg=>by
    unfold dC
    cases own gg with
    | none=>rfl
    | some i=>simp [hAhs,dU]
   obtain ⟨fvs,bl,cvs,q1,q2,q3,q4,q5,q6,q7,q8⟩:=hrep.fn'
   have hbs:∀ {gg:Nat} {oo:Nat},gg<w.heap.size→BS (BE cx own w.heap.size A sig.bres) (dC own A.hs) gg oo:=fun {gg oo} hgg=>
    ⟨aW (hownC gg),.inl ⟨hgg,aW (hownC gg),fun e=>by rw [hbres] at e;cases e⟩⟩
   have hrep':∀ {S:Nat→Nat→Prop} {dd:D} {vv:Value},Rep w S dd vv→Rep w (BS (BE cx own w.heap.size A sig.bres) (dC own A.hs)) dd vv:=fun hr=>
    hr.in_ (fun _ _ _ _ h=>h) (fun _ cur _ h=>⟨cur,h,rfl⟩) (fun gg oo uu _ hcell=>hbs (nL hcell))
   obtain ⟨hfl,hfg⟩:=Bj hff
   obtain ⟨hcl,hcg⟩:=FO hcf
   have hargn:c.args.toList.length=c.args.size:=by simp
   have hosl:A.os.length=c.args.size:=by rw [k2,←k1,hargn]
   have hnf:sig.ps.length - ND sig.ps - c.args.toList.length=fs.length:=by rw [←hcaps,hargn];omega
   rw [hnf,hargn] at k4 k1 hA k2
   -- what is handed to the function
   let vals:List Value:=((fs.zip fvs).map fun p=>wrapV p.1.1 p.2)++(c.args.map a.eval).toList++(bl.map fun g=>Value.pointer (some ⟨g,0,none⟩))
   let ins:List (List D):=fs.map (·.2)++A.os.map (·.get env)++cs
   have hvl:vals.length=sig.ps.length:=by simp [vals,q1,q2];omega
   have hins:ins.length=sig.ps.length:=by simp [ins,hosl];omega
   have hwc:=Hh (bres:=sig.bres) hw hnd hh hdst
   have hpart:∀ (i:Nat) (p:PSh),sig.ps[i]? =some p→(i<fs.length∧∃ q ws,fs[i]? =some q∧p= .v q.1 ws∧HU ws q.2=true)∨
     (fs.length≤i∧i<fs.length+c.args.size∧∃ x cc,c.args.toList[i - fs.length]? =some x∧Cu L g sig.bres x p (0+(i - fs.length))=some cc∧cc.Sub A∧∃ oo,cc.os=[oo]∧A.os[i - fs.length]? =some oo)∨
     (fs.length+c.args.size≤i∧∃ q ws,cs[i - (fs.length+c.args.size)]? =some q∧p= .box true ws∧HU ws q=true):=by
    intro i p hi
    have hil:i<sig.ps.length:=(List.getElem?_eq_some_iff.1 hi).1
    by_cases h1:i<fs.length
    ·obtain ⟨ws,e1,e2⟩:=hfg i p fs[i] (by rw [List.getElem?_take,if_pos h1];exact hi) (List.getElem?_eq_getElem h1)
     exact .inl ⟨h1,_,ws,List.getElem?_eq_getElem h1,e1,e2⟩
    ·by_cases h2:i<fs.length+c.args.size
     ·have hx:i - fs.length<c.args.toList.length:=by simp;omega
      obtain ⟨cc,m1,m2,oo,m3,m4⟩:=k4 (i - fs.length) _ p (List.getElem?_eq_getElem hx) (by
       rw [List.getElem?_take,if_pos (by omega),List.getElem?_drop,show fs.length+(i - fs.length)=i from by omega];exact hi)
      exact .inr (.inl ⟨by omega,h2,_,cc,List.getElem?_eq_getElem hx,by rw [hbres];exact m1,m2,oo,m3,m4⟩)
     ·have hcx:i - (fs.length+c.args.size)<cs.length:=by omega
      obtain ⟨ws,e1,e2⟩:=hcg (i - (fs.length+c.args.size)) p cs[i - (fs.length+c.args.size)] (by
       rw [hosl,List.getElem?_drop,show fs.length+c.args.size+(i - (fs.length+c.args.size))=i from by omega];exact hi) (List.getElem?_eq_getElem hcx)
      exact .inr (.inr ⟨by omega,_,ws,List.getElem?_eq_getElem hcx,e1,e2⟩)
   have hnb:∀ {x:Operand} {p:PSh} {kp:Nat} {cc:CA},Cu L g sig.bres x p kp=some cc→cc.Sub A→∀ ws,p≠ .box false ws:=fun e2 e3=>(UY e2).2 (List.eq_nil_iff_forall_not_mem.2 fun y hy=>by
    have:=e3.hs y hy
    rw [hAhs] at this
    simp at this)
   have hzl:((fs.zip fvs).map fun p=>wrapV p.1.1 p.2).length=fs.length:=by simp [q1]
   have hml:(c.args.map a.eval).toList.length=c.args.size:=by simp
   have hinv:Inv (rQ sig) w (BE cx own w.heap.size A sig.bres) (dC own A.hs) (envL ins) (tvL vals):=by
    intro q hq
    obtain ⟨i,p,hi,rfl⟩:=xP hq
    rw [Nat.zero_add]
    rcases hpart i p hi with ⟨h1,q,ws,e1,rfl,e3⟩ | ⟨h1,h2,x,cc,e1,e2,e3,oo,e4,e5⟩ | ⟨h1,q,ws,e1,rfl,e3⟩
    ·have hvi:i<fvs.length:=by omega
     have hvs:fvs[i]? =some fvs[i]:=List.getElem?_eq_getElem hvi
     obtain ⟨r1,r2⟩:=q3 i q _ e1 hvs
     have hE:envL ins i=q.2:=by
      show ins.getD i []=q.2
      rw [List.getD_eq_getElem?_getD,show ins=fs.map (·.2)++(A.os.map (·.get env)++cs) from List.append_assoc _ _ _,List.getElem?_append_left (by simpa using h1),List.getElem?_map,e1];rfl
     have hT:tvL vals i=wrapV q.1 fvs[i]:=by
      show vals.getD i undef=_
      rw [List.getD_eq_getElem?_getD,show vals=((fs.zip fvs).map fun p=>wrapV p.1.1 p.2)++((c.args.map a.eval).toList++(bl.map fun g=>Value.pointer (some ⟨g,0,none⟩))) from List.append_assoc _ _ _,List.getElem?_append_left (by rw [hzl];exact h1),List.getElem?_map]
      have:(fs.zip fvs)[i]? =some (q,fvs[i]):=by rw [List.getElem?_zip_eq_some];exact ⟨e1,hvs⟩
      rw [this];rfl
     obtain ⟨t1,t2⟩:=Hm e3
     refine ⟨fvs[i],hT,r2,by rw [hE];exact t1,by rw [hE];exact r1,fun j c' dd vv hc' hdd hvv=>?_⟩
     rw [hE] at hdd
     exact XC (t2 j c' dd hc' hdd) (hrep' (q4 i q _ j dd vv e1 hvs hdd hvv))
    ·obtain ⟨o',n1,n2⟩:=TN (E:=fun _=>oo.get env) (T:=fun _=>a.eval x) hw hL hg hnd hh hds hrd hdp e2 e3
     rw [e4] at n1
     simp only [List.cons.injEq,and_true] at n1
     subst n1
     have hE:envL ins i=oo.get env:=by
      show ins.getD i []=_
      rw [List.getD_eq_getElem?_getD,show ins=fs.map (·.2)++(A.os.map (·.get env)++cs) from List.append_assoc _ _ _,List.getElem?_append_right (by simpa using h1),List.getElem?_append_left (by simp [hosl];omega),List.getElem?_map]
      simp [e5]
     have hT:tvL vals i=a.eval x:=by
      show vals.getD i undef=_
      rw [List.getD_eq_getElem?_getD,show vals=((fs.zip fvs).map fun p=>wrapV p.1.1 p.2)++((c.args.map a.eval).toList++(bl.map fun g=>Value.pointer (some ⟨g,0,none⟩))) from List.append_assoc _ _ _,List.getElem?_append_right (by rw [hzl];exact h1),hzl,List.getElem?_append_left (by rw [hml];omega)]
      simp only [Array.getElem?_toList] at e1
      simp [e1]
     exact UX hownC hE.symm hT.symm (hnb e2 e3) (n2 rfl rfl)
    ·have hcx:i - (fs.length+c.args.size)<cs.length:=(List.getElem?_eq_some_iff.1 e1).1
     have hbi:i - (fs.length+c.args.size)<bl.length:=by omega
     have hbe:bl[i - (fs.length+c.args.size)]? =some bl[i - (fs.length+c.args.size)]:=List.getElem?_eq_getElem hbi
     obtain ⟨cur,T,r1,r2⟩:=q5 _ q _ e1 hbe
     have hE:envL ins i=q:=by
      show ins.getD i []=q
      rw [List.getD_eq_getElem?_getD,List.getElem?_append_right (by simp [hosl];omega)]
      have:i - (fs.map (·.2)++A.os.map (·.get env)).length=i - (fs.length+c.args.size):=by simp [hosl]
      rw [this,e1];rfl
     have hT:tvL vals i= .pointer (some ⟨bl[i - (fs.length+c.args.size)],0,none⟩):=by
      show vals.getD i undef=_
      rw [List.getD_eq_getElem?_getD,List.getElem?_append_right (by rw [List.length_append,hzl,hml];omega)]
      have:i - (((fs.zip fvs).map fun p=>wrapV p.1.1 p.2)++(c.args.map a.eval).toList).length=i - (fs.length+c.args.size):=by rw [List.length_append,hzl,hml]
      rw [this,List.getElem?_map,hbe];rfl
     obtain ⟨t1,t2⟩:=Hm e3
     refine ⟨_,cur,T,hT,r1,⟨by rw [hE];exact t1,by rw [hE];simpa using r2,fun j c' dd vv hc' hdd hvv=>?_⟩,?_⟩
     ·rw [hE] at hdd
      obtain ⟨s1,s2⟩:=q6 _ q _ j dd e1 hbe hdd
      have:cvs (i - (fs.length+c.args.size)) j=vv:=by
       rw [bM r1] at s1
       have h3:cur[j]? =some vv:=by simpa using hvv
       rw [s1] at h3
       simpa using h3
      rw [←this]
      exact XC (t2 j c' dd hc' hdd) (hrep' (q7 _ q _ j dd e1 hbe hdd))
     ·simp only [if_true]
      exact ⟨hownC _,fun j _=> .inl ⟨DB r1,aW (hownC _),fun e=>by rw [hbres] at e;cases e⟩,Km e3⟩
   intro K Q hK
   unfold Oper.wp
   rw [QP ho hce hent w q8]
   show Calls P f _ w _
   have hcall:=hfun w (dC own A.hs) (BE cx own w.heap.size A sig.bres) vals hP hwc (fun gg j hj=>by rw [hownC] at hj;cases hj) hvl hins hinv
   have hva:((fs.zip fvs).map fun p=>wrapV p.1.1 p.2).toArray++c.args.map a.eval++(bl.map fun g=>Value.pointer (some ⟨g,0,none⟩)).toArray=vals.toArray:=by
    apply Array.ext'
    simp [vals]
   rw [hva]
   refine Calls.mono hcall ?_
   rintro e w1 ⟨v,ownE,rfl,hw1,hres⟩
   have hnobox:boxPs sig.ps 0=[]:=ES (fun p hp ws e=>by
    obtain ⟨i,hi⟩:=List.getElem?_of_mem hp
    rcases hpart i p hi with ⟨_,q,ws',_,e2,_⟩ | ⟨_,_,x,cc,_,e2,e3,_⟩ | ⟨_,q,ws',_,e2,_⟩
    ·rw [e] at e2;cases e2
    ·exact hnb e2 e3 ws e
    ·rw [e] at e2;simp at e2)
   have:=Kl (o:=o) (xs:=[]) (rs:=rs) hw hd hod (A:=A) (u:=u) (env:=env) (by rw [←hu,hAas,hAbs]) hsh hfine hnd hds (by rw [hAbs];rfl) hh (by rw [hAbs];simp) ⟨by rw [hAas];simp,by rw [hAbs,hnobox];rfl,by rw [hnobox];simp⟩ hrl (by rw [hAbs];rfl) hw1 (by simpa using hres)
   rw [hAbs] at this
   exact hK _ w1 (a.put o.dst v) this
  ·cases hc
 ·cases hc

end

end
section

abbrev LP:=Leaf×List (Nat×Nat)

def gF (lr:LP→Option LP)(own:Own):Own:=fun g=>(own g).bind fun i=>(lr (i.leaf,i.path)).map fun q=>⟨q.1,q.2,i.bound⟩

def XE (own:Own)(n:Nat):Cx where
 S1:=fun _ _=>False
 S2:=fun _ _=>False
 N:=fun g=>n≤g∨own g≠none

def AC (own ownE:Own)(lr bk:LP→Option LP)(u:Up):Own:=fun g=>
 match ownE g with
 | some i=>(bk (i.leaf,i.path)).map fun q=>⟨q.1,q.2,i.bound⟩
 | none=>match gF lr own g with
  | some _=>none
  | none=>(own g).bind (aX u)

structure LrOk (u:Up) (lr bk:LP→Option LP):Prop where
 inj:∀ q q' m,lr q=some m→lr q'=some m→q=q'
 hit:∀ q m,lr q=some m→∃ a∈u.aff,q.1=(a.h,a.i+1)
 binj:∀ q q' m,bk q=some m→bk q'=some m→q=q'
 bhit:∀ q m,bk q=some m→∃ m',lr m=some m'

theorem sJ {lr:LP→Option LP}{own:Own}{g:Nat}{j:OI}(h:gF lr own g=some j):∃ i,own g=some i∧lr (i.leaf,i.path)=some (j.leaf,j.path)∧j.bound=i.bound:=by
 unfold gF at h
 cases ho:own g with
 | none=>rw [ho] at h;cases h
 | some i=>
  rw [ho] at h
  simp only [Option.bind_some] at h
  cases hm:lr (i.leaf,i.path) with
  | none=>rw [hm] at h;cases h
  | some q=>
   rw [hm] at h
   simp only [Option.map_some,Option.some.injEq] at h
   subst h
   exact ⟨i,rfl,hm,rfl⟩

theorem TO {lr:LP→Option LP}{own:Own}{g:Nat}{i:OI}{q:LP}(h:own g=some i)(hl:lr (i.leaf,i.path)=some q):gF lr own g=some ⟨q.1,q.2,i.bound⟩:=by
 unfold gF;rw [h];simp [hl]

theorem sK {lr:LP→Option LP}{own:Own}{g:Nat}{i:OI}(h:own g=some i)(hl:lr (i.leaf,i.path)=none):gF lr own g=none:=by
 unfold gF;rw [h];simp [hl]

theorem Hn {lr:LP→Option LP}{own:Own}{g:Nat}(h:own g=none):gF lr own g=none:=by
 unfold gF;rw [h];rfl

theorem DU {lr:LP→Option LP}{own:Own}{g o:Nat}(h:claimed (gF lr own) g o):claimed own g o:=by
 obtain ⟨j,b,h1,h2,h3⟩:=h
 obtain ⟨i,h4,_,h5⟩:=sJ h1
 exact ⟨i,b,h4,by rw [←h5];exact h2,h3⟩

section
variable {w0:World}{own0:Own}{cx:Cx}{own ownE:Own}{w w1:World}{env env':Env}{tv tv':Nat→Value}{u:Up}{lr bk:LP→Option LP}

theorem aC1 (hw:WOk w0 own0 cx own w)(hl:LrOk u lr bk):WOk w (gF lr own) (XE (gF lr own) w.heap.size) (gF lr own) w where
 kept:=Kept.refl _ _
 dom:=fun g j h=>by
  obtain ⟨i,h1,_⟩:=sJ h
  exact ⟨(hw.dom g i h1).1,.inr (by rw [h];simp)⟩
 n:=fun g=>Iff.rfl
 s1:=fun g o h=>h
 s2:=fun g o h=>h.elim
 cl:=fun g o _ h=>h
 inj:=fun g g' i j h h' hle hp=>by
  obtain ⟨i0,h1,h2,_⟩:=sJ h
  obtain ⟨j0,k1,k2,_⟩:=sJ h'
  have:=hl.inj _ _ _ h2 (by rw [k2,hle,hp])
  rw [Prod.mk.injEq] at this
  exact hw.inj g g' i0 j0 h1 k1 this.1 this.2

theorem xQ (hw1:WOk w (gF lr own) (XE (gF lr own) w.heap.size) ownE w1){g:Nat}(hg:g<w.heap.size)(hC:gF lr own g=none):ownE g=none:=by
 cases hE:ownE g with
 | none=>rfl
 | some j=>
  rcases (hw1.dom g j hE).2 with h | h
  ·omega
  ·exact absurd hC h

theorem sU {g:Nat}(hE:ownE g=none)(hC:gF lr own g=none):AC own ownE lr bk u g=(own g).bind (aX u):=by
 unfold AC;rw [hE,hC]

theorem XF {g:Nat}{j:OI}{q:LP}(hE:ownE g=some j)(hb:bk (j.leaf,j.path)=some q):AC own ownE lr bk u g=some ⟨q.1,q.2,j.bound⟩:=by
 unfold AC;rw [hE];simp [hb]

theorem ZU (hl:LrOk u lr bk)(hnd:bE u.aff=true){q m:LP}(h:lr q=some m):u.A q.1:=by
 obtain ⟨a,ha,h1⟩:=hl.hit q m h
 rw [h1]
 exact .inr (.inr ⟨a.i,rfl,.inl (by rw [iF hnd ha];rfl)⟩)

theorem ZV (hw:WOk w0 own0 cx own w)(hl:LrOk u lr bk)(hnd:bE u.aff=true)(hto:∀ a∈u.aff,a.to= .x)(hw1:WOk w (gF lr own) (XE (gF lr own) w.heap.size) ownE w1)
  (henv:∀ s,¬u.W s→env' s=env s)(htv:∀ s,u.d≠some s→tv' s=tv s):Step cx own w env tv u.A u.W u.d (AC own ownE lr bk u) w1 env' tv':=by
 have hk:=hw1.kept
 have hold:∀ {g:Nat} {i':OI},AC own ownE lr bk u g=some i'→(∃ i,ownE g=some i∧bk (i.leaf,i.path)=some (i'.leaf,i'.path)∧i'.bound=i.bound)∨(ownE g=none∧gF lr own g=none∧∃ i,own g=some i∧aX u i=some i'∧i'=i):=by
  intro g i' h
  unfold AC at h
  cases he:ownE g with
  | some i=>
   rw [he] at h
   simp only at h
   cases hb:bk (i.leaf,i.path) with
   | none=>rw [hb] at h;cases h
   | some l=>
    rw [hb] at h
    simp only [Option.map_some,Option.some.injEq] at h
    subst h
    exact .inl ⟨i,rfl,hb,rfl⟩
  | none=>
   rw [he] at h
   simp only at h
   cases hc:gF lr own g with
   | some _=>rw [hc] at h;cases h
   | none=>
    rw [hc] at h
    simp only at h
    cases ho:own g with
    | none=>rw [ho] at h;cases h
    | some i=>
     rw [ho] at h
     simp only [Option.bind_some] at h
     refine .inr ⟨rfl,rfl,i,rfl,h,?_⟩
     obtain ⟨_,_,h1 | ⟨k,a,d,j,m,f,_,h2,h3,_⟩⟩:=fQ h
     ·exact h1.1
     ·rw [hto a (Up.find_some h2).1] at h3;cases h3
 refine ⟨⟨hk.os,hk.tape,hk.output,hk.size,fun g hg hn=>hk.block g hg (Hn hn),fun g o hg hc=>hk.cell g o hg (fun h=>hc (DU h)),hk.row⟩,fun g hg hn=>?_,fun g o hg hc hc'=>?_,fun g i hi hA=>?_,fun g i' h=>?_,fun g g' i' j' h h' hle hp=>?_,henv,htv⟩
 ·have hC:gF lr own g=none:=Hn hn
  rw [sU (xQ hw1 hg hC) hC,hn];rfl
 ·obtain ⟨i',b,h1,h2,h3⟩:=hc'
  rcases hold h1 with ⟨i,h4,_,h5⟩ | ⟨_,_,i,h4,_,h5⟩
  ·exact hc (DU (hw1.cl g o hg ⟨i,b,h4,by rw [←h5];exact h2,h3⟩))
  ·rw [h5] at h2
   exact hc ⟨i,b,h4,h2,h3⟩
 ·have hg:=(hw.dom g i hi).1
  have hC:gF lr own g=none:=by
   cases hm:lr (i.leaf,i.path) with
   | none=>exact sK hi hm
   | some l'=>exact absurd (ZU hl hnd hm) hA
  exact ⟨by rw [sU (xQ hw1 hg hC) hC,hi];exact uR hA,hk.block g hg hC⟩
 ·rcases hold h with ⟨i,h4,_,_⟩ | ⟨_,_,i,h4,_,_⟩
  ·obtain ⟨h5,h6⟩:=hw1.dom g i h4
   refine ⟨h5,?_⟩
   rcases h6 with h6 | h6
   ·exact (hw.n g).2 (.inl (Nat.le_trans hw.kept.size h6))
   ·cases hc:gF lr own g with
    | none=>exact absurd hc h6
    | some j=>
     obtain ⟨i0,ho,_⟩:=sJ hc
     exact (hw.dom g i0 ho).2
  ·obtain ⟨h5,h6⟩:=hw.dom g i h4
   exact ⟨Nat.lt_of_lt_of_le h5 hk.size,h6⟩
 ·have cross:∀ {g:Nat} {q m:LP},bk q=some m→∀ {i:OI},gF lr own g=none→own g=some i→(i.leaf,i.path)=m→False:=by
   intro g q m hb i hC ho he
   obtain ⟨m',hm'⟩:=hl.bhit q m hb
   rw [←he] at hm'
   rw [TO ho hm'] at hC
   cases hC
  rcases hold h with ⟨i,h1,h2,_⟩ | ⟨_,h1,i,h2,_,h4⟩
  ·rcases hold h' with ⟨j,k1,k2,_⟩ | ⟨_,k1,j,k2,_,k4⟩
   ·have:=hl.binj _ _ _ h2 (by rw [k2,hle,hp])
    rw [Prod.mk.injEq] at this
    exact hw1.inj g g' i j h1 k1 this.1 this.2
   ·subst k4
    exact (cross h2 k1 k2 (by rw [hle,hp])).elim
  ·subst h4
   rcases hold h' with ⟨j,k1,k2,_⟩ | ⟨_,k1,j,k2,_,k4⟩
   ·exact (cross k2 h1 h2 (by rw [hle,hp])).elim
   ·subst k4
    exact hw.inj g g' _ _ h2 k2 hle hp

theorem aC2 (hw:WOk w0 own0 cx own w)(hl:LrOk u lr bk)(hnd:bE u.aff=true)(hto:∀ a∈u.aff,a.to= .x∧u.W a.h)(hw1:WOk w (gF lr own) (XE (gF lr own) w.heap.size) ownE w1)
  (st:Step cx own w env tv u.A u.W u.d (AC own ownE lr bk u) w1 env' tv'):AffOk cx own w u (AC own ownE lr bk u) w1 where
 no:=fun a h m f=>by rw [(hto a h).1];simp
 to:=fun a h x v _ s i=>by rw [(hto a h).1];trivial
 ow:=fun a h hW x v _=>absurd (hto a h).2 hW
 drop:=fun h i hd hf m f x v ho=>by
  refine OwnRep.frozen' ho (fun g j hj hle=>?_) (fun d v h=>st.rs h)
  have hC:gF lr own g=none:=by
   cases hm:lr (j.leaf,j.path) with
   | none=>exact sK hj hm
   | some q=>
    obtain ⟨a,h1,h2⟩:=hl.hit _ _ hm
    simp only [hle,Prod.mk.injEq,Nat.add_right_cancel_iff] at h2
    have:=iF hnd h1
    rw [←h2.1,←h2.2,hf] at this
    cases this
  have hg:=(hw.dom g j hj).1
  refine ⟨?_,(hw.dom g j hj).2,hw1.kept.block g hg hC⟩
  rw [sU (xQ hw1 hg hC) hC,hj]
  simp only [Option.bind_some]
  unfold aX
  have h2:j.leaf.2=i+1:=by rw [hle]
  have h1:j.leaf.1=h:=by rw [hle]
  rw [h2,h1]
  simp [hf,hd]

theorem InRep.given {l l':Leaf}{p q:List (Nat×Nat)}{d:D}{v:Value}(h:InRep w own l true p d v)(hlr:∀ r,lr (l,p++r)=some (l',q++r)):InRep w (gF lr own) l' true q d v:=
 h.re q (fun g i r hi hle hp hb=>⟨by rw [TO hi (by rw [hle,hp];exact hlr r),hb],rfl⟩)

theorem InRep.back {l l':Leaf}{p q:List (Nat×Nat)}{d:D}{v:Value}(h:InRep w1 ownE l true p d v)(hbk:∀ r,bk (l,p++r)=some (l',q++r)):InRep w1 (AC own ownE lr bk u) l' true q d v:=
 h.re q (fun g i r hi hle hp hb=>⟨by rw [XF hi (by rw [hle,hp];exact hbk r),hb],rfl⟩)

theorem InRep.stay (hw:WOk w0 own0 cx own w)(hw1:WOk w (gF lr own) (XE (gF lr own) w.heap.size) ownE w1){l:Leaf}{p:List (Nat×Nat)}{d:D}{v:Value}(h:InRep w own l true p d v)(hlr:∀ r,lr (l,p++r)=none)
  (hk:∀ r b,aX u ⟨l,p++r,b⟩=some ⟨l,p++r,b⟩):InRep w1 (AC own ownE lr bk u) l true p d v:=
 h.re p (fun g i r hi hle hp hb=>by
  have hC:gF lr own g=none:=sK hi (by rw [hle,hp];exact hlr r)
  have hg:=(hw.dom g i hi).1
  refine ⟨?_,hw1.kept.block g hg hC⟩
  rw [sU (xQ hw1 hg hC) hC,hi]
  obtain ⟨il,ip,ib⟩:=i
  simp only at hle hp hb
  subst hle;subst hp;subst hb
  exact hk r _)

theorem InRep.val {l:Leaf}{m:Bool}{p:List (Nat×Nat)}{xs:List (List D)}{A A2:Option Addr}{n cap cap2:Nat}(h:InRep w own l m p (.sl xs) (.slice A n cap))(hA:n≠0→A2=A)(hc:n≤cap2∨n=0):InRep w own l m p (.sl xs) (.slice A2 n cap2):=by
 cases h with
 | scal h=>cases h
 | nil=>exact .nil _ _ _
 | sl _ _ g sz _ cur Ty fr vs h1 h2 h3 h4 h5 h6 h7=>
  by_cases hx:xs.length=0
  ·have:xs=[]:=List.length_eq_zero_iff.1 hx
   subst this
   exact .nil _ _ _
  ·rw [hA hx]
   exact .sl p xs g sz cap2 cur Ty fr vs h1 h2 (by rcases hc with hc | hc<;>omega) h4 h5 h6 h7

theorem InRep.same (hinj:∀ g g' i j,own g=some i→own g'=some j→i.leaf=j.leaf→i.path=j.path→g=g'){l:Leaf}{p:List (Nat×Nat)}{xs:List (List D)}{v v2:Value}(h:InRep w own l true p (.sl xs) v)(h2:InRep w own l true p (.sl xs) v2):
  ∃ A A2 cap cap2,v= .slice A xs.length cap∧v2= .slice A2 xs.length cap2∧(xs.length≠0→A2=A)∧(xs.length≤cap2∨xs.length=0):=by
 cases h with
 | scal h=>cases h
 | nil _ A cap=>
  obtain ⟨A2,cap2,rfl,h3⟩:=h2.slice
  exact ⟨A,A2,cap,cap2,rfl,rfl,fun h=>absurd rfl h,.inr rfl⟩
 | sl _ _ g sz cap cur Ty fr vs h1 h2' h3 h4 h5 h6 h7=>
  cases h2 with
  | scal h=>cases h
  | nil _ A2 cap2=>exact ⟨_,A2,cap,cap2,rfl,rfl,fun h=>absurd rfl h,.inr rfl⟩
  | sl _ _ g2 sz2 cap2 cur2 Ty2 fr2 vs2 k1 k2 k3=>
   have:g2=g:=hinj _ _ _ _ k2 h2' rfl rfl
   subst this
   exact ⟨_,_,cap,cap2,rfl,rfl,fun _=>rfl,.inl k3⟩

end

end
section

theorem Ho {s h:Nat}:∀ {cs ws os:List CS} {k:Nat} {aas:List Aff},mB s h cs ws os k=some aas→
  cs.length=ws.length∧os.length=ws.length∧(∀ a∈aas,a.h=h∧a.to= .x∧k≤a.i∧a.i<k+ws.length)∧
  ∀ (j:Nat) (c w' o:CS),cs[j]? =some c→ws[j]? =some w'→os[j]? =some o→(c= .s∧w'= .s∧o= .s)∨
   (w'= .o true ⟨0,true⟩∧∃ f,f.u=true∧o= .o true f∧(∃ a∈aas,a.h=h∧a.i=k+j)∧((c= .o true f∧s=h)∨c= .al h (k+j) true f))
 | [],[],[],k,aas,e=>by
  simp only [mB,Option.some.injEq] at e
  subst e
  exact ⟨rfl,rfl,fun a h=>by simp at h,fun j c w' o h=>by simp at h⟩
 | [],[],_::_,_,_,e=>by simp [mB] at e
 | [],_::_,_,_,_,e=>by simp [mB] at e
 | _::_,[],_,_,_,e=>by simp [mB] at e
 | _::_,_::_,[],_,_,e=>by simp [mB] at e
 | c0::cs,w0::ws,o0::os,k,aas,e=>by
  simp only [mB] at e
  cases hr:mB s h cs ws os (k+1) with
  | none=>rw [hr] at e;simp at e
  | some bs=>
   rw [hr] at e
   simp only at e
   obtain ⟨h1,h2,h3,h4⟩:=Ho hr
   have h3':∀ a∈bs,a.h=h∧a.to= .x∧k≤a.i∧a.i<k+(w0::ws).length:=fun a ha=>by
    obtain ⟨q1,q2,q3,q4⟩:=h3 a ha
    exact ⟨q1,q2,by omega,by simp;omega⟩
   have tail:∀ {as':List Aff},(∀ a∈bs,a∈as')→∀ (j:Nat) (c w' o:CS),cs[j]? =some c→ws[j]? =some w'→os[j]? =some o→(c= .s∧w'= .s∧o= .s)∨
     (w'= .o true ⟨0,true⟩∧∃ f,f.u=true∧o= .o true f∧(∃ a∈as',a.h=h∧a.i=k+(j+1))∧((c= .o true f∧s=h)∨c= .al h (k+(j+1)) true f)):=by
    intro as' hb j c w' o hc hw ho
    rcases h4 j c w' o hc hw ho with q | ⟨q1,f,q2,q3,⟨a,q4,q5,q6⟩,q7⟩
    ·exact .inl q
    ·exact .inr ⟨q1,f,q2,q3,⟨a,hb a q4,q5,by omega⟩,by rwa [show k+(j+1)=k+1+j from by omega]⟩
   split at e
   ·split at e
    ·simp only [Option.some.injEq] at e
     subst e
     refine ⟨by simp [h1],by simp [h2],h3',fun j c w' o hc hw ho=>?_⟩
     cases j with
     | zero=>
      simp only [List.getElem?_cons_zero,Option.some.injEq] at hc hw ho
      subst hc;subst hw;subst ho
      exact .inl ⟨rfl,rfl,rfl⟩
     | succ j=>exact tail (fun _ h=>h) j c w' o (by simpa using hc) (by simpa using hw) (by simpa using ho)
    ·cases e
   ·split at e
    ·rename_i f
     split at e
     ·rename_i hb
      simp only [Option.some.injEq] at e
      subst e
      simp only [Bool.and_eq_true] at hb
      refine ⟨by simp [h1],by simp [h2],fun a ha=>?_,fun j c w' o hc hw ho=>?_⟩
      ·rcases List.mem_cons.1 ha with rfl | ha
       ·exact ⟨rfl,rfl,Nat.le_refl _,by simp⟩
       ·exact h3' a ha
      ·cases j with
       | zero=>
        simp only [List.getElem?_cons_zero,Option.some.injEq] at hc hw ho
        subst hc;subst hw;subst ho
        refine .inr ⟨rfl,f,hb.1,rfl,⟨_,List.mem_cons_self ..,rfl,rfl⟩,?_⟩
        have h5:=hb.2
        split at h5
        ·simp only [Bool.and_eq_true] at h5
         obtain ⟨⟨h6,h7⟩,h8⟩:=h5
         rw [h7,←pO.1 h8]
         exact .inl ⟨rfl,Nat.eq_of_beq_eq_true h6⟩
        ·simp only [Bool.and_eq_true] at h5
         obtain ⟨⟨⟨h6,h9⟩,h7⟩,h8⟩:=h5
         rw [h7,←pO.1 h8,Nat.eq_of_beq_eq_true h6,Nat.eq_of_beq_eq_true h9]
         exact .inr rfl
        ·cases h5
       | succ j=>exact tail (fun _ h=>List.mem_cons_of_mem _ h) j c w' o (by simpa using hc) (by simpa using hw) (by simpa using ho)
     ·cases e
    ·cases e
   ·cases e

theorem OwnRep.isSl' {w:World}{cx:Cx}{own:Own}{l:Leaf}{m:Bool}{f:Fz}{d:D}{v:Value}(h:OwnRep w cx own l m f d v):∃ xs,d= .sl xs:=by
 cases h with
 | nil=>exact ⟨_,rfl⟩
 | sl xs=>exact ⟨_,rfl⟩
 | ip xs=>exact ⟨_,rfl⟩

section
variable {P:Program}{C:Cfg}{W:Wld}{w0:World}{own0:Own}{cx:Cx}{own:Own}{w:World}{a:Act}{env env':Env}{L:Look}{g:Gd}{o:Oper}{u:Up}{p:PS}{d:Nat}

theorem TP {tv:Nat→Value}{h:Nat}{mk:List CS→Sh}(hmk:(∃ b,mk=Sh.v b)∨mk=Sh.box false){os:List CS}(hh:SlotOk w cx own env tv h (mk os)):
  ∃ vsh,All3 (aS w cx own h) os (env h) vsh∧∀ (w1:World) (own':Own) (env':Env) (tv':Nat→Value) (cs':List CS),All3 (aS w1 cx own' h) cs' (env' h) vsh→tv' h=tv h→
   (∀ gb,own gb=some ⟨(h,0),[],some 0⟩→own' gb=some ⟨(h,0),[],some 0⟩∧w1.heap[gb]? =w.heap[gb]?)→SlotOk w1 cx own' env' tv' h (mk cs'):=by
 rcases hmk with ⟨b,rfl⟩ | rfl
 ·obtain ⟨vs,h1,h2,h3⟩:=hh
  exact ⟨vs,h3,fun w1 own' env' tv' cs' k1 k2 _=>⟨vs,k2.trans h1,h2,k1⟩⟩
 ·obtain ⟨gb,cur,T,h1,h2,h3,h4⟩:=hh
  simp only [Bool.false_eq_true,if_false] at h4
  refine ⟨cur.toList,h3,fun w1 own' env' tv' cs' k1 k2 k3=>?_⟩
  obtain ⟨k4,k5⟩:=k3 gb h4
  refine ⟨gb,cur,T,k2.trans h1,k5.trans h2,k1,?_⟩
  simp only [Bool.false_eq_true,if_false]
  exact k4

theorem TQ (hw:WOk w0 own0 cx own w)(hG:∀ g,cx.N g→W.G≤g)(hP:W.P w)(hod:o.dst=some d)(hd:d<a.tmps.size){c:Call}{f:Nat}{sig:Sig}(ho:o.op= .call c)(hce:c.callee= .value (.func f))
  {x0 r cc:List D}{dy:D}(hF:FunOk P W f sig [x0,[dy]] [r,cc]){ag:Bool}{ws:List CS}(hps:sig.ps=[.io ag ws,.v false [.s]]){ax ay:Operand}(hargs:c.args.toList=[ax,ay])(hy:Scal dy (a.eval ay))
  {lr bk:LP→Option LP}(hl:LrOk u lr bk)(hnd:bE u.aff=true)(hlr1:∀ q m,lr q=some m→m.1.1=0)
  (hin:SlotOk w (XE (gF lr own) w.heap.size) (gF lr own) (fun _=>x0) (fun _=>a.eval ax) 0 (.v ag ws))(hto:∀ a∈u.aff,a.to= .x∧u.W a.h)
  (henv:∀ s,¬u.W s→env' s=env s)(hdst:u.dst=some (d,.v false [.s]))(henvd:env' d=r)
  (hdone:∀ (w1:World) (ownE:Own),WOk w (gF lr own) (XE (gF lr own) w.heap.size) ownE w1→SlotOk w1 (XE (gF lr own) w.heap.size) ownE (fun _=>cc) (fun _=>a.eval ax) 1 (.v ag ws)→
   ∀ tv':Nat→Value,Step cx own w env (tvA a) u.A u.W u.d (AC own ownE lr bk u) w1 env' tv'→(∀ z,z≠d→tv' z=tvA a z)→∀ p∈u.bx,p.1≠d→SlotOk w1 cx (AC own ownE lr bk u) env' tv' p.1 p.2):
  xN P cx own w a env o u env':=by
 obtain ⟨hent,hfun⟩:=hF
 intro K Q hK
 unfold Oper.wp
 rw [Kk ho hce hent]
 show Calls P f (c.args.map a.eval) w _
 have hvals:(c.args.map a.eval).toList=[a.eval ax,a.eval ay]:=by simp [hargs]
 have hioo:Lp sig=some (ag,ws):=by unfold Lp;rw [hps]
 have hinv:Inv (rQ sig) w (XE (gF lr own) w.heap.size) (gF lr own) (envL [x0,[dy]]) (tvL (c.args.map a.eval).toList):=by
  intro q hq
  rw [hvals]
  unfold rQ at hq
  rw [hps] at hq
  simp only [CG,xH,List.mem_cons,List.not_mem_nil,or_false] at hq
  rcases hq with rfl | rfl
  ·exact hin
  ·refine ⟨[a.eval ay],rfl,fun _=>rfl,rfl,rfl,fun i c x v hc hx hv=>?_⟩
   cases i with
   | succ i=>simp at hc
   | zero=>
    simp only [List.getElem?_cons_zero,Option.some.injEq] at hc hv
    subst hc;subst hv
    have:dy=x:=by simpa [envL] using hx
    subst this
    exact ⟨hy.cell1,hy⟩
 have hcall:=hfun w (gF lr own) (XE (gF lr own) w.heap.size) (c.args.map a.eval).toList hP (aC1 hw hl) (fun gg j hj=>by
  obtain ⟨i,h1,h2,_⟩:=sJ hj
  refine ⟨hG _ (hw.dom gg i h1).2,?_⟩
  have:=hlr1 _ _ h2
  simp only at this
  rw [this,hps]
  simp) (by rw [hvals,hps];rfl) (by rw [hps];rfl) hinv
 rw [Array.toArray_toList] at hcall
 refine Calls.mono hcall ?_
 rintro e w1 ⟨v,ownE,rfl,hw1,hres⟩
 unfold AA at hres
 rw [hioo] at hres
 obtain ⟨r1,c1,he,hsc,hsl⟩:=hres
 simp only [List.cons.injEq,and_true] at he
 obtain ⟨rfl,rfl⟩:=he
 rw [hvals] at hsl
 have htv:∀ z,z≠d→tvA (a.put o.dst v) z=tvA a z:=fun z hz=>by rw [hod,aQ a d _ hd,if_neg hz]
 have hud:u.d=some d:=by unfold Up.d;rw [hdst];rfl
 have st:=ZV (env:=env) (tv:=tvA a) (env':=env') (tv':=tvA (a.put o.dst v)) hw hl hnd (fun a ha=>(hto a ha).1) hw1 henv (fun s hs=>htv s (fun e=>hs (by rw [hud,e])))
 have af:=aC2 hw hl hnd hto hw1 st
 refine hK _ w1 (a.put o.dst v) ⟨st,af,fun p hp hpd=>?_,fun d' sh' he=>?_,by rw [hod];simp [Act.put],by rw [hod];rfl⟩
 ·refine hdone w1 ownE hw1 hsl _ st htv p hp (fun e=>?_)
  rw [Up.isDst_iff.2 (by rw [hud,e])] at hpd
  cases hpd
 ·rw [hdst] at he
  simp only [Option.some.injEq,Prod.mk.injEq] at he
  obtain ⟨rfl,rfl⟩:=he
  refine ⟨[v],by rw [hod,aQ a d _ hd,if_pos rfl];rfl,fun _=>rfl,by rw [henvd];rfl,by rw [henvd];rfl,fun i c x v' hc hx hv=>?_⟩
  rw [henvd] at hx
  cases i with
  | succ i=>simp at hc
  | zero=>
   simp only [List.getElem?_cons_zero,Option.some.injEq] at hc hx hv
   subst hc;subst hx;subst hv
   exact ⟨hsc.cell1,hsc⟩

def XG (u:Up)(i:Nat)(q:LP):Option LP:=match u.aff.any (fun a=>gP (a.h,a.i+1) q.1) with | true=>some ((0,q.1.2 - i),q.2) | false=>none
def ZW (u:Up)(h i:Nat)(q:LP):Option LP:=match Nat.beq q.1.1 1&&u.aff.any (fun a=>gP (a.h,a.i+1) (h,q.1.2+i)) with | true=>some ((h,q.1.2+i),q.2) | false=>none

theorem AD {i:Nat}{q m:LP}(h:XG u i q=some m):(∃ a∈u.aff,q.1=(a.h,a.i+1))∧m=((0,q.1.2 - i),q.2):=by
 unfold XG at h
 split at h
 ·rename_i hb
  obtain ⟨a,ha,hb⟩:=List.any_eq_true.1 hb
  simp only [Option.some.injEq] at h
  exact ⟨⟨a,ha,(bP.1 hb).symm⟩,h.symm⟩
 ·cases h

theorem XH {i:Nat}{q:LP}(h:∃ a∈u.aff,q.1=(a.h,a.i+1)):XG u i q=some ((0,q.1.2 - i),q.2):=by
 obtain ⟨a,ha,hb⟩:=h
 unfold XG
 rw [List.any_eq_true.2 ⟨a,ha,bP.2 hb.symm⟩]

theorem Hp {h i:Nat}{q m:LP}(e:ZW u h i q=some m):q.1.1=1∧(∃ a∈u.aff,(h,q.1.2+i)=(a.h,a.i+1))∧m=((h,q.1.2+i),q.2):=by
 unfold ZW at e
 split at e
 ·rename_i hb
  simp only [Bool.and_eq_true] at hb
  obtain ⟨a,ha,hc⟩:=List.any_eq_true.1 hb.2
  simp only [Option.some.injEq] at e
  exact ⟨Nat.eq_of_beq_eq_true hb.1,⟨a,ha,(bP.1 hc).symm⟩,e.symm⟩
 ·cases e

theorem aC3 {h i j:Nat}{r:List (Nat×Nat)}(e:∃ a∈u.aff,(h,j+i)=(a.h,a.i+1)):ZW u h i ((1,j),r)=some ((h,j+i),r):=by
 obtain ⟨a,ha,hb⟩:=e
 unfold ZW
 simp only
 rw [List.any_eq_true.2 ⟨a,ha,bP.2 hb.symm⟩]
 rfl

theorem aC4 {h i:Nat}(ha:∀ a∈u.aff,a.h=h∧i≤a.i):LrOk u (XG u i) (ZW u h i) where
 inj:=fun q q' m h1 h2=>by
  obtain ⟨⟨a,k1,k2⟩,k3⟩:=AD h1
  obtain ⟨⟨b,k4,k5⟩,k6⟩:=AD h2
  obtain ⟨⟨q1,q2⟩,q3⟩:=q
  obtain ⟨⟨q4,q5⟩,q6⟩:=q'
  simp only [Prod.mk.injEq] at k2 k5
  have:=ha a k1
  have:=ha b k4
  rw [k3] at k6
  simp only [Prod.mk.injEq,true_and] at k6
  simp only [Prod.mk.injEq]
  exact ⟨⟨by omega,by omega⟩,k6.2⟩
 hit:=fun q m h1=>(AD h1).1
 binj:=fun q q' m h1 h2=>by
  obtain ⟨k1,_,k3⟩:=Hp h1
  obtain ⟨k4,_,k6⟩:=Hp h2
  obtain ⟨⟨q1,q2⟩,q3⟩:=q
  obtain ⟨⟨q4,q5⟩,q6⟩:=q'
  rw [k3] at k6
  simp only [Prod.mk.injEq,true_and] at k1 k4 k6 ⊢
  exact ⟨⟨by omega,by omega⟩,k6.2⟩
 bhit:=fun q m h1=>by
  obtain ⟨_,k2,k3⟩:=Hp h1
  rw [k3]
  exact ⟨_,XH k2⟩

end

end
section

theorem UZ {ag:Bool}{vs vs':List Value}(h:wrapV ag vs=wrapV ag vs')(h1:ag=false→vs.length=1)(h2:ag=false→vs'.length=1):vs=vs':=by
 cases ag with
 | true=>
  simp only [wrapV,Value.agg.injEq] at h
  have:=congrArg Array.toList h
  simpa using this
 | false=>
  obtain ⟨v,rfl⟩:=List.length_eq_one_iff.1 (h1 rfl)
  obtain ⟨v',rfl⟩:=List.length_eq_one_iff.1 (h2 rfl)
  simp only [wrapV] at h
  rw [h]

section
variable {P:Program}{C:Cfg}{W:Wld}{w0:World}{own0:Own}{cx:Cx}{own:Own}{w:World}{a:Act}{env env':Env}{L:Look}{g:Gd}{o:Oper}{u:Up}{p:PS}{d:Nat}

theorem Kn (hw:WOk w0 own0 cx own w)(hG:∀ g,cx.N g→W.G≤g)(hP:W.P w)(hL:∀ z,SlotOk w cx own env (tvA a) z (L z))(hg:∀ gs b,g=some (gs,b)→env gs=[.bool b])
  (hod:o.dst=some d)(hd:d<a.tmps.size){c:Call}{f:Nat}{sig:Sig}(ho:o.op= .call c)(hce:c.callee= .value (.func f)){Φ:Ask}(hΦ:∀ ins outs,Φ f sig ins outs→FunOk P W f sig ins outs)
  {ag:Bool}{ws:List CS}(hps:sig.ps=[.io ag ws,.v false [.s]]){s:Nat}{y:Operand}(hargs:c.args.toList=[.tmp s,y])(hy:scal L g y=true)
  {cs:List CS}(hs:sP L g s= .v ag cs){h i:Nat}(hhd:h≠d)(hsh:s=h→i=0)(hcs:cs≠[]){os:List CS}{aas:List Aff}(hio:mB s h cs ws ((os.drop i).take ws.length) i=some aas)
  (hnd:bE aas=true)(hal:os.all oN=true){mk:List CS→Sh}(hmk:(∃ b,mk=Sh.v b)∨mk=Sh.box false)(hLh:L h=mk os)
  (hu:u={aff:=aas,bx:=[(h,mk (KR os ws i))],dst:=some (d,.v false [.s]) })(hp:cG Φ (.ioc d f sig (.t s) (cC y) h i none) env env'):xN P cx own w a env o u env':=by
 simp only [cG] at hp
 obtain ⟨r,cc,hp1,hp2,hp3,rfl⟩:=hp
 simp only [Opd.get] at hp1 hp3
 rw [show (Opd.t s).get env=env s from rfl] at hp2
 obtain ⟨dy,vy,hy1,hy2,hy3⟩:=EJ hL hg hy
 rw [hy2] at hp2
 subst hy1
 obtain ⟨e1,e2,e3,e4⟩:=Ho hio
 have hua:u.aff=aas:=by rw [hu]
 have hub:u.bx=[(h,mk (KR os ws i))]:=by rw [hu]
 have hudst:u.dst=some (d,.v false [.s]):=by rw [hu]
 have hud:u.d=some d:=by unfold Up.d;rw [hudst];rfl
 clear hu
 have hsl:=eV hL hg s
 rw [hs] at hsl
 obtain ⟨vs,q1,q2,q3⟩:=hsl
 have hlh:=hL h
 rw [hLh] at hlh
 obtain ⟨vsh,m1,m2⟩:=TP hmk hlh
 have hwl:0<ws.length:=by rw [←e1];exact List.length_pos_iff.2 hcs
 have hlen:i+ws.length≤os.length:=by
  simp only [List.length_take,List.length_drop] at e2
  omega
 have hesl:(env s).length=ws.length:=by rw [←q3.1,e1]
 have hgo:∀ j,j<ws.length→os[i+j]? =((os.drop i).take ws.length)[j]? :=fun j hj=>by rw [List.getElem?_take,if_pos hj,List.getElem?_drop]
 have hge:∀ j,j<ws.length→(env h)[i+j]? =(env s)[j]? :=fun j hj=>by
  have this:(((env h).drop i).take (env s).length)[j]? =(env s)[j]? :=congrArg (fun l=>l[j]?) hp1
  rw [←this,List.getElem?_take,if_pos (by omega),List.getElem?_drop]
 have hcell:∀ (j:Nat) (w':CS) (x:D) (v:Value),ws[j]? =some w'→(env s)[j]? =some x→vs[j]? =some v→Cell1 v∧((w'= .s∧os[i+j]? =some .s∧Scal x v)∨
   (w'= .o true ⟨0,true⟩∧∃ f,f.u=true∧os[i+j]? =some (.o true f)∧(∃ a∈u.aff,a.h=h∧a.i=i+j)∧OwnRep w cx own (h,i+j+1) true f x v)):=by
  intro j w' x v hw' hx hv
  have hj:j<ws.length:=(List.getElem?_eq_some_iff.1 hw').1
  have hc:cs[j]? =some (cs[j]'(by omega)):=List.getElem?_eq_getElem (by omega)
  have ho':((os.drop i).take ws.length)[j]? =some (((os.drop i).take ws.length)[j]'(by omega)):=List.getElem?_eq_getElem (by omega)
  have hq:=q3.2.2 j _ x v hc hx hv
  refine ⟨hq.1,?_⟩
  rcases e4 j _ w' _ hc hw' ho' with ⟨k1,k2,k3⟩ | ⟨k1,f',k2,k3,k4,k5⟩
  ·refine .inl ⟨k2,by rw [hgo j hj,ho',k3],?_⟩
   have:=hq.2
   rw [k1] at this
   exact this
  ·refine .inr ⟨k1,f',k2,by rw [hgo j hj,ho',k3],by rw [hua];exact k4,?_⟩
   have h2:=hq.2
   rcases k5 with ⟨k5,k6⟩ | k5
   ·rw [k5] at h2
    have:=hsh k6
    subst this
    subst k6
    rw [Nat.zero_add]
    exact h2
   ·rw [k5] at h2
    exact h2
 have hha:∀ a∈u.aff,a.h=h∧a.to= .x∧i≤a.i∧a.i<i+ws.length:=fun a ha=>e3 a (by rw [←hua];exact ha)
 refine TQ hw hG hP hod hd ho hce (hΦ _ _ hp2) hps hargs hy3 (lr:=XG u i) (bk:=ZW u h i) (aC4 (fun a ha=>⟨(hha a ha).1,(hha a ha).2.2.1⟩)) (by rw [hua];exact hnd) (fun q m hm=>by rw [(AD hm).2]) ?_
  (fun a ha=>⟨(hha a ha).2.1,.inr ⟨_,by rw [hub];exact List.mem_singleton.2 rfl,(hha a ha).1.symm⟩⟩) (fun z hz=>?_) hudst (aI _ _ _) ?_
 ·refine ⟨vs,q1,q2,e1.symm.trans q3.1,q3.2.1,fun j w' x v hw' hx hv=>?_⟩
  obtain ⟨k1,⟨k2,_,k4⟩ | ⟨k2,f',k3,_,⟨a',k5,k6,k7⟩,k8⟩⟩:=hcell j w' x v hw' hx hv
  ·exact ⟨k1,by rw [k2];exact k4⟩
  ·refine ⟨k1,?_⟩
   rw [k2]
   obtain ⟨zs,rfl⟩:=k8.isSl'
   refine OwnRep.ip zs v rfl ((k8.inr k3).given (fun r=>?_))
   rw [XH ⟨a',k5,by simp only [List.nil_append];rw [k6,k7]⟩]
   simp only [List.nil_append,Option.some.injEq,Prod.mk.injEq,and_true,true_and]
   omega
 ·have h1:z≠d:=fun e=>hz (.inl (by rw [Up.isDst_iff,hud,e]))
  have h2:z≠h:=fun e=>hz (.inr ⟨_,by rw [hub];exact List.mem_singleton.2 rfl,e.symm⟩)
  rw [cY _ _ _ _ h1,cY _ _ _ _ h2]
 ·intro w1 ownE hw1 hsl tv' st htv pp hpp hpd
  rw [hub] at hpp
  simp only [List.mem_singleton] at hpp
  subst hpp
  have henvh:put (put env h (cA (env h) i cc)) d r h=(env h).take i++cc++(env h).drop (i+cc.length):=by
   rw [cY _ _ _ _ hhd,aI];rfl
  have hcl:cc.length=ws.length:=hp3.trans hesl
  have hle:i+cc.length≤(env h).length:=by rw [←m1.1,hcl];exact hlen
  obtain ⟨vs',r1,r2,r3⟩:=hsl
  have hvv:vs=vs':=UZ (q1.symm.trans r1) q2 r2
  subst hvv
  refine m2 w1 _ _ tv' _ ?_ (htv h hhd) (fun gb hgb=>?_)
  ·rw [henvh]
   have hsl1:(KR os ws i).length=os.length:=bQ hlen
   have hsl2:=bQ hle
   refine ⟨by rw [hsl1,hsl2];exact m1.1,by rw [hsl2];exact m1.2.1,fun k c' x v hc' hx hv=>?_⟩
   unfold KR at hc'
   rw [dA hlen] at hc'
   rw [dA hle,hcl] at hx
   have hkeep:(k<i∨i+ws.length≤k)→os[k]? =some c'→(env h)[k]? =some x→aS w1 cx (AC own ownE (XG u i) (ZW u h i) u) h k c' x v:=fun hk hc hx=>by
    refine wL st (List.all_eq_true.1 hal c' (List.mem_of_getElem? hc)) (fun m f hcf hAA=>?_) (m1.2.2 k c' x v hc hx hv)
    rcases hAA with hh | ⟨_,_,_,hh⟩ | ⟨jj,hh,hh'⟩
    ·rw [Up.isDst_iff,hud] at hh
     simp only [Option.some.injEq] at hh
     exact hhd hh.symm
    ·simp at hh
    ·simp only [Nat.add_right_cancel_iff] at hh
     subst hh
     rcases hh' with hh' | hh'
     ·obtain ⟨z,hz⟩:=Option.isSome_iff_exists.1 hh'
      obtain ⟨z1,z2,z3⟩:=Up.find_some hz
      have:=hha z z1
      omega
     ·obtain ⟨z,hz,hto⟩:=List.any_eq_true.1 hh'
      rw [(hha z hz).2.1] at hto
      cases hto
   by_cases c1:k<i
   ·rw [if_pos c1] at hc' hx
    exact hkeep (.inl c1) hc' hx
   ·rw [if_neg c1] at hc' hx
    by_cases c2:k<i+ws.length
    ·rw [if_pos c2] at hc' hx
     obtain ⟨j,rfl⟩:∃ j,k=i+j:=⟨k - i,by omega⟩
     rw [show i+j - i=j from by omega] at hc' hx
     have hj:j<ws.length:=by omega
     have hxs:(env s)[j]? =some ((env s)[j]'(by omega)):=List.getElem?_eq_getElem (by omega)
     have hvl:vs.length=ws.length:=by rw [q3.2.1];exact hesl
     have hvs:vs[j]? =some (vs[j]'(by omega)):=List.getElem?_eq_getElem (by omega)
     have hxh:=(hge j hj).trans hxs
     have hcb:=r3.2.2 j c' x _ hc' hx hvs
     obtain ⟨k1,⟨k2,k3,k4⟩ | ⟨k2,f',k3,k4,⟨a',k5,k6,k7⟩,k8⟩⟩:=hcell j c' _ _ hc' hxs hvs
     ·have hoh:=m1.2.2 (i+j) _ _ v k3 hxh hv
      have hev:=Scal.inj k4 hoh.2
      refine ⟨hoh.1,?_⟩
      have:=hcb.2
      rw [k2] at this ⊢
      rw [←hev]
      exact this
     ·have hoh:=m1.2.2 (i+j) _ _ v k4 hxh hv
      refine ⟨hoh.1,?_⟩
      have hb:=hcb.2
      rw [k2] at hb ⊢
      have hb':OwnRep w1 (XE (gF (XG u i) own) w.heap.size) ownE (1,j+1) true ⟨0,true⟩ x _:=hb
      obtain ⟨zs,rfl⟩:=hb'.isSl'
      have hbi:=(hb'.inr rfl).back (own:=own) (lr:=XG u i) (bk:=ZW u h i) (u:=u) (l':=(h,i+j+1)) (q:=[]) (fun r=>by
       have hb2:ZW u h i ((1,j+1),[]++r)=some ((h,j+1+i),[]++r):=aC3 ⟨a',k5,by rw [k6,k7,show j+1+i=i+j+1 from by omega]⟩
       rw [hb2,show j+1+i=i+j+1 from by omega])
      obtain ⟨xs0,hx0⟩:=k8.isSl'
      have hoi:OwnRep w cx own (h,i+j+1) true f' ((env s)[j]'(by omega)) v:=hoh.2
      rw [hx0] at k8 hoi
      obtain ⟨A,A2,cap,cap2,t1,t2,t3,t4⟩:=InRep.same hw.inj (k8.inr k3) (hoi.inr k3)
      rw [t1] at hbi
      obtain ⟨A',cap',t5,_⟩:=hbi.slice
      simp only [Value.slice.injEq] at t5
      rw [t2]
      refine OwnRep.ip zs _ rfl ?_
      exact hbi.val t3 t4
    ·rw [if_neg c2] at hc' hx
     exact hkeep (.inr (by omega)) hc' hx
  ·have hC:gF (XG u i) own gb=none:=by
    cases hm:XG u i ((h,0),[]) with
    | none=>exact sK hgb hm
    | some q=>
     obtain ⟨⟨a',_,k2⟩,_⟩:=AD hm
     simp at k2
   have hgl:=(hw.dom gb _ hgb).1
   refine ⟨?_,hw1.kept.block gb hgl hC⟩
   rw [sU (xQ hw1 hgl hC) hC,hgb]
   have:u.isDst h=false:=by
    cases hq:u.isDst h with
    | false=>rfl
    | true=>
     rw [Up.isDst_iff,hud] at hq
     simp only [Option.some.injEq] at hq
     exact absurd hq.symm hhd
   simp [aX,this]

def TR (T:Leaf)(k:Nat×Nat)(q:LP):Option LP:=match gP q.1 T,q.2 with | true,x::r=>(match gP x k with | true=>some ((0,1),r) | false=>none) | _,_=>none
def bkE (T:Leaf)(k:Nat×Nat)(q:LP):Option LP:=match gP q.1 (1,1) with | true=>some (T,k::q.2) | false=>none

theorem wN {T:Leaf}{k:Nat×Nat}{q m:LP}(h:TR T k q=some m):∃ r,q=(T,k::r)∧m=((0,1),r):=by
 unfold TR at h
 split at h
 ·rename_i x r h1 h2
  split at h
  ·rename_i h3
   simp only [Option.some.injEq] at h
   refine ⟨r,?_,h.symm⟩
   obtain ⟨q1,q2⟩:=q
   simp only at h1 h2
   rw [h2,bP.1 h1,bP.1 h3]
  ·cases h
 ·cases h

theorem XI {T:Leaf}{k:Nat×Nat}{r:List (Nat×Nat)}:TR T k (T,k::r)=some ((0,1),r):=by
 simp [TR,bP.2 rfl]

theorem Hq {T:Leaf}{k:Nat×Nat}{q m:LP}(h:bkE T k q=some m):q.1=(1,1)∧m=(T,k::q.2):=by
 unfold bkE at h
 split at h
 ·rename_i h1
  simp only [Option.some.injEq] at h
  exact ⟨bP.1 h1,h.symm⟩
 ·cases h

theorem aC5 {T:Leaf}{k:Nat×Nat}(hT:∃ a∈u.aff,T=(a.h,a.i+1)):LrOk u (TR T k) (bkE T k) where
 inj:=fun q q' m h1 h2=>by
  obtain ⟨r,k1,k2⟩:=wN h1
  obtain ⟨r',k3,k4⟩:=wN h2
  rw [k2] at k4
  simp only [Prod.mk.injEq,true_and] at k4
  rw [k1,k3,k4]
 hit:=fun q m h1=>by
  obtain ⟨r,k1,_⟩:=wN h1
  rw [k1];exact hT
 binj:=fun q q' m h1 h2=>by
  obtain ⟨k1,k2⟩:=Hq h1
  obtain ⟨k3,k4⟩:=Hq h2
  rw [k2] at k4
  simp only [Prod.mk.injEq,List.cons.injEq,true_and] at k4
  exact Prod.ext (k1.trans k3.symm) k4
 bhit:=fun q m h1=>by
  obtain ⟨_,k2⟩:=Hq h1
  rw [k2]
  exact ⟨_,XI⟩

end

end
section

section
variable {P:Program}{C:Cfg}{W:Wld}{w0:World}{own0:Own}{cx:Cx}{own:Own}{w:World}{a:Act}{env env':Env}{L:Look}{g:Gd}{o:Oper}{u:Up}{p:PS}{d:Nat}

theorem Ua {h i:Nat}{ff:Fz}{L:Look}(hho:rG i ff (L h)=true):∃ (mk:List CS→Sh) (os:List CS),((∃ b,mk=Sh.v b)∨mk=Sh.box false)∧L h=mk os∧os[i]? =some (.o true ff)∧os.all oN=true:=by
 have key:∀ cs:List CS,Yr ff (cs.getD i .x)=true→cs[i]? =some (.o true ff):=fun cs hci=>by
  have hil:i<cs.length:=by
   rcases Nat.lt_or_ge i cs.length with hh | hh
   ·exact hh
   ·rw [List.getD_eq_getElem?_getD,List.getElem?_eq_none hh] at hci;cases hci
  rw [List.getD_eq_getElem?_getD,List.getElem?_eq_getElem hil] at hci
  rw [List.getElem?_eq_getElem hil]
  simp only [Option.getD_some] at hci
  unfold Yr at hci
  split at hci
  ·rename_i e;rw [e,←pO.1 hci]
  ·cases hci
 unfold rG at hho
 split at hho
 ·rename_i b cs e
  simp only [Bool.and_eq_true] at hho
  exact ⟨Sh.v b,cs,.inl ⟨b,rfl⟩,e,key cs hho.1,hho.2⟩
 ·rename_i cs e
  simp only [Bool.and_eq_true] at hho
  exact ⟨Sh.box false,cs,.inr rfl,e,key cs hho.1,hho.2⟩
 ·cases hho

theorem XJ (hw:WOk w0 own0 cx own w)(hG:∀ g,cx.N g→W.G≤g)(hP:W.P w)(hL:∀ z,SlotOk w cx own env (tvA a) z (L z))(hg:∀ gs b,g=some (gs,b)→env gs=[.bool b])
  (hod:o.dst=some d)(hd:d<a.tmps.size){c:Call}{f:Nat}{sig:Sig}(ho:o.op= .call c)(hce:c.callee= .value (.func f)){Φ:Ask}(hΦ:∀ ins outs,Φ f sig ins outs→FunOk P W f sig ins outs)
  (hps:sig.ps=[.io false [.o true ⟨0,true⟩],.v false [.s]]){s:Nat}{y:Operand}(hargs:c.args.toList=[.tmp s,y])(hy:scal L g y=true)
  {p h i off:Nat}{ff:Fz}(hs:sP L g s= .ld p h i)(hLp:L p= .el (.al h i true ff) off)(hfu:ff.u=true)(hho:rG i ff (L h)=true)(hhd:h≠d)
  (hu:u={aff:=[⟨h,i,true,ff,.o true ff,.x⟩],bx:=[(h,L h)],dst:=some (d,.v false [.s]) })(hp:cG Φ (.ioc d f sig (.t s) (cC y) h i (some (p,off))) env env'):xN P cx own w a env o u env':=by
 simp only [cG] at hp
 obtain ⟨xs,k,n,ys,xa,yb,zz,r,dd',hp1,hp2,hxa,hyb,hab,hzz,hp7,rfl⟩:=hp
 obtain ⟨dy,vy,hy1,hy2,hy3⟩:=EJ hL hg hy
 rw [hy2] at hp7
 subst hy1
 have hua:u.aff=[⟨h,i,true,ff,.o true ff,.x⟩]:=by rw [hu]
 have hub:u.bx=[(h,L h)]:=by rw [hu]
 have hudst:u.dst=some (d,.v false [.s]):=by rw [hu]
 have hud:u.d=some d:=by unfold Up.d;rw [hudst];rfl
 clear hu
 have hndst:u.isDst h=false:=by
  cases hq:u.isDst h with
  | false=>rfl
  | true=>
   rw [Up.isDst_iff,hud] at hq
   simp only [Option.some.injEq] at hq
   exact absurd hq.symm hhd
 have hsl:=eV hL hg s
 rw [hs] at hsl
 obtain ⟨g1,off1,v1,t1,t2,t3,t4⟩:=hsl
 have hpl:=hL p
 rw [hLp] at hpl
 obtain ⟨xs',k',n',g2,o0,sz,len,cap,z1,z2,z3,z4,z5,z6,z7⟩:=hpl
 rw [hp1] at z1
 simp only [List.cons.injEq,D.sl.injEq,D.int.injEq,and_true] at z1
 obtain ⟨rfl,rfl,rfl⟩:=z1
 have hxne:xs≠[]:=fun e=>by rw [e] at hxa;simp at hxa
 obtain ⟨g3,sz3,cap3,cur3,Ty3,fr3,vs3,e0,e1,e2,_,e8,_⟩:=OwnRep.opened (cx:=cx) hfu z6.2 hxne
 simp only [Value.slice.injEq,Option.some.injEq,Addr.mk.injEq] at e0
 obtain ⟨⟨rfl,rfl,_⟩,_,_⟩:=e0
 have hsz3:sz3=sz:=(e8 xa (List.mem_of_getElem? hxa)).symm.trans (z4 xa (List.mem_of_getElem? hxa))
 subst hsz3
 rw [t2] at z7
 simp only [Value.pointer.injEq,Option.some.injEq,Addr.mk.injEq,and_true] at z7
 obtain ⟨rfl,z8⟩:=z7
 obtain ⟨mk,os,hmk,hLh,hosi,hal⟩:=Ua hho
 have hlh:=hL h
 rw [hLh] at hlh
 obtain ⟨vsh,m1,m2⟩:=TP hmk hlh
 have hil:i<os.length:=(List.getElem?_eq_some_iff.1 hosi).1
 have hvi:i<vsh.length:=by rw [m1.2.1,←m1.1];exact hil
 have hvh:vsh[i]? =some vsh[i]:=List.getElem?_eq_getElem hvi
 have hoc:=m1.2.2 i _ _ _ hosi hp2 hvh
 have hyne:ys≠[]:=fun e=>by rw [e] at hyb;simp at hyb
 obtain ⟨g4,sz4,cap4,cur4,Ty4,fr4,vs4,f0,f1,f2,f6,f8,f9,f10,_,ferb⟩:=OwnRep.opened (cx:=cx) hfu hoc.2 hyne
 have hgg:g4=g1:=hw.inj g4 g1 _ _ f2 t3 rfl rfl
 subst hgg
 have hszz:sz4=sz3:=(f8 yb (List.mem_of_getElem? hyb)).symm.trans (hab.symm.trans (e8 xa (List.mem_of_getElem? hxa)))
 subst hszz
 have hv1:vs4 n.toNat off=v1:=by
  have h1:=f9 n.toNat yb off _ hyb hzz
  rw [bM f1,z8,Nat.zero_add,h1] at t4
  exact Option.some.inj t4
 have hin1:InRep w own (h,i+1) true [(n.toNat,off)] (.sl zz) v1:=by rw [←hv1];exact f10 _ _ _ _ hyb hzz
 have hmem:(⟨h,i,true,ff,.o true ff,.x⟩:Aff)∈u.aff:=by rw [hua];exact List.mem_singleton.2 rfl
 have hfind:u.find h i=some ⟨h,i,true,ff,.o true ff,.x⟩:=by
  unfold Up.find
  rw [hua]
  simp
 have hto:u.isTo h i=false:=by
  unfold Up.isTo
  rw [hua]
  simp [CS.isTo]
 refine TQ hw hG hP hod hd ho hce (hΦ _ _ hp7) hps hargs hy3 (lr:=TR (h,i+1) (n.toNat,off)) (bk:=bkE (h,i+1) (n.toNat,off)) (aC5 ⟨_,hmem,rfl⟩) (by rw [hua];rfl) (fun q m hm=>by
  obtain ⟨r,_,h2⟩:=wN hm
  rw [h2]) ?_ (fun a ha=>?_) (fun z hz=>?_) hudst (aI _ _ _) ?_
 ·refine ⟨[v1],t1,fun _=>rfl,rfl,rfl,fun j c' x v hc hx hv=>?_⟩
  cases j with
  | succ j=>simp at hc
  | zero=>
   simp only [List.getElem?_cons_zero,Option.some.injEq] at hc hx hv
   subst hc;subst hx;subst hv
   exact ⟨hin1.cell1,OwnRep.ip zz _ rfl (hin1.given (fun r=>XI))⟩
 ·rw [hua] at ha
  simp only [List.mem_singleton] at ha
  subst ha
  exact ⟨rfl,.inr ⟨_,by rw [hub];exact List.mem_singleton.2 rfl,rfl⟩⟩
 ·have h1:z≠d:=fun e=>hz (.inl (by rw [Up.isDst_iff,hud,e]))
  have h2:z≠h:=fun e=>hz (.inr ⟨_,by rw [hub];exact List.mem_singleton.2 rfl,e.symm⟩)
  rw [cY _ _ _ _ h1,cY _ _ _ _ h2]
 ·intro w1 ownE hw1 hsl tv' st htv pp hpp hpd
  rw [hub] at hpp
  simp only [List.mem_singleton] at hpp
  subst hpp
  simp only
  rw [hLh]
  have henvh:put (put env h ((env h).set i (.sl (ys.set n.toNat (yb.set off dd'))))) d r h=(env h).set i (.sl (ys.set n.toNat (yb.set off dd'))):=by
   rw [cY _ _ _ _ hhd,aI]
  obtain ⟨vs',r1,r2,r3⟩:=hsl
  obtain ⟨dx,vx,hdx,rfl,r4⟩:=r3.one
  simp only [List.cons.injEq,and_true] at hdx
  subst hdx
  have hvx:v1=vx:=t1.symm.trans r1
  subst hvx
  have hrel:∀ q b,aX u ⟨(h,i+1),q,b⟩=some ⟨(h,i+1),q,b⟩:=fun q b=>by simp [aX,hfind,hndst,hto]
  have hlrn:∀ q:List (Nat×Nat),(∀ r,q≠(n.toNat,off)::r)→TR (h,i+1) (n.toNat,off) ((h,i+1),q)=none:=fun q hq=>by
   cases hx:TR (h,i+1) (n.toNat,off) ((h,i+1),q) with
   | none=>rfl
   | some m=>
    obtain ⟨r,h1,_⟩:=wN hx
    simp only [Prod.mk.injEq,true_and] at h1
    exact absurd h1 (hq r)
  have hback:InRep w1 (AC own ownE (TR (h,i+1) (n.toNat,off)) (bkE (h,i+1) (n.toNat,off)) u) (h,i+1) true [(n.toNat,off)] dd' v1:=
   (OwnRep.inr (f:=⟨0,true⟩) rfl r4.2).back (q:=[(n.toNat,off)]) (fun r=>by simp [bkE,bP.2 rfl])
  have hC:gF (TR (h,i+1) (n.toNat,off)) own g4=none:=sK t3 (hlrn [] (fun r=>by simp))
  have hgl:=(hw.dom g4 _ t3).1
  have htop:AC own ownE (TR (h,i+1) (n.toNat,off)) (bkE (h,i+1) (n.toNat,off)) u g4=some ⟨(h,i+1),[],some 0⟩:=by
   rw [sU (xQ hw1 hgl hC) hC,t3]
   exact hrel _ _
  have hheap:=hw1.kept.block g4 hgl hC
  refine m2 w1 _ _ tv' os ?_ (htv h hhd) (fun gb hgb=>?_)
  ·rw [henvh]
   refine ⟨by rw [List.length_set];exact m1.1,by rw [List.length_set];exact m1.2.1,fun j c' x v hc' hx hv=>?_⟩
   by_cases hji:j=i
   ·subst hji
    rw [hosi] at hc'
    rw [hvh] at hv
    simp only [Option.some.injEq] at hc' hv
    subst hc';subst hv
    rw [List.getElem?_set_self (by rw [←m1.1];exact hil)] at hx
    simp only [Option.some.injEq] at hx
    subst hx
    have hnl:n.toNat<ys.length:=(List.getElem?_eq_some_iff.1 hyb).1
    have hol:off<yb.length:=(List.getElem?_eq_some_iff.1 hzz).1
    have hget:∀ (i':Nat) (x':List D),(ys.set n.toNat (yb.set off dd'))[i']? =some x'→(i'=n.toNat∧x'=yb.set off dd')∨(i'≠n.toNat∧ys[i']? =some x'):=by
     intro i' x' hx'
     by_cases hin:i'=n.toNat
     ·subst hin
      rw [List.getElem?_set_self hnl] at hx'
      simp only [Option.some.injEq] at hx'
      exact .inl ⟨rfl,hx'.symm⟩
     ·rw [List.getElem?_set_ne (Ne.symm hin)] at hx'
      exact .inr ⟨hin,hx'⟩
    have hval:∀ (i':Nat) (x':List D) (j':Nat) (d':D),(ys.set n.toNat (yb.set off dd'))[i']? =some x'→x'[j']? =some d'→cur4[i'*sz4+j']? =some (vs4 i' j')∧
      InRep w1 (AC own ownE (TR (h,j+1) (n.toNat,off)) (bkE (h,j+1) (n.toNat,off)) u) (h,j+1) true [(i',j')] d' (vs4 i' j'):=by
     intro i' x' j' d' hx' hd'
     rcases hget i' x' hx' with ⟨rfl,rfl⟩ | ⟨hin,hx2⟩
     ·by_cases hjo:j'=off
      ·subst hjo
       rw [List.getElem?_set_self hol] at hd'
       simp only [Option.some.injEq] at hd'
       subst hd'
       exact ⟨f9 _ yb _ _ hyb hzz,by rw [hv1];exact hback⟩
      ·rw [List.getElem?_set_ne (Ne.symm hjo)] at hd'
       exact ⟨f9 _ yb _ _ hyb hd',(f10 _ yb _ _ hyb hd').stay hw hw1 (fun r=>hlrn _ (fun r'=>by simp [hjo])) (fun r b=>hrel _ _)⟩
     ·exact ⟨f9 _ x' _ _ hx2 hd',(f10 _ x' _ _ hx2 hd').stay hw hw1 (fun r=>hlrn _ (fun r'=>by simp [hin])) (fun r b=>hrel _ _)⟩
    exact ⟨hoc.1,ferb w1 _ (h,j+1) (ys.set n.toNat (yb.set off dd')) cur4 vs4 (by simp) (hheap.trans f1) rfl htop (fun x' hx'=>by
      obtain ⟨i',hi'⟩:=List.getElem?_of_mem hx'
      rcases hget i' x' hi' with ⟨_,rfl⟩ | ⟨_,hx2⟩
      ·rw [List.length_set];exact f8 yb (List.mem_of_getElem? hyb)
      ·exact f8 x' (List.mem_of_getElem? hx2)) (fun i' x' j' d' hx' hd'=>(hval i' x' j' d' hx' hd').1) (fun i' x' j' d' hx' hd'=>(hval i' x' j' d' hx' hd').2)⟩
   ·rw [List.getElem?_set_ne (Ne.symm hji)] at hx
    refine wL st (List.all_eq_true.1 hal c' (List.mem_of_getElem? hc')) (fun m f hcf hAA=>?_) (m1.2.2 j c' x v hc' hx hv)
    rcases hAA with hh | ⟨_,_,_,hh⟩ | ⟨jj,hh,hh'⟩
    ·rw [hndst] at hh;cases hh
    ·simp at hh
    ·simp only [Nat.add_right_cancel_iff] at hh
     subst hh
     rcases hh' with hh' | hh'
     ·obtain ⟨z,hz⟩:=Option.isSome_iff_exists.1 hh'
      obtain ⟨y1,y2,y3⟩:=Up.find_some hz
      rw [hua] at y1
      simp only [List.mem_singleton] at y1
      subst y1
      exact hji y3.symm
     ·obtain ⟨z,hz,hto'⟩:=List.any_eq_true.1 hh'
      rw [hua] at hz
      simp only [List.mem_singleton] at hz
      subst hz
      cases hto'
  ·have hC':gF (TR (h,i+1) (n.toNat,off)) own gb=none:=by
    cases hm:TR (h,i+1) (n.toNat,off) ((h,0),[]) with
    | none=>exact sK hgb hm
    | some q=>
     obtain ⟨r,k2,_⟩:=wN hm
     simp at k2
   have hgl':=(hw.dom gb _ hgb).1
   refine ⟨?_,hw1.kept.block gb hgl' hC'⟩
   rw [sU (xQ hw1 hgl' hC') hC',hgb]
   simp [aX,hndst]

theorem QQ {s j:Nat}:∀ {cs:List CS},Lh s cs j≠none→cs≠[]
 | [],h=>absurd rfl h
 | _::_,_=>by simp

theorem aC6 (hw:WOk w0 own0 cx own w)(hG:∀ g,cx.N g→W.G≤g)(hP:W.P w)(hL:∀ z,SlotOk w cx own env (tvA a) z (L z))(hg:∀ gs b,g=some (gs,b)→env gs=[.bool b])
  (hod:o.dst=some d)(hd:d<a.tmps.size){c:Call}{f:Nat}{sig:Sig}(ho:o.op= .call c)(hce:c.callee= .value (.func f)){Φ:Ask}(hΦ:∀ ins outs,Φ f sig ins outs→FunOk P W f sig ins outs)
  (hc:aCo L g d f sig c.args.toList=some (u,p))(hp:cG Φ p env env'):xN P cx own w a env o u env':=by
 unfold aCo at hc
 split at hc
 ·rename_i ag ws s y hps hrs hargs
  split at hc
  ·rename_i hyw
   simp only [Bool.and_eq_true] at hyw
   split at hc
   ·rename_i a' cs hs
    split at hc
    ·rename_i h i hb hpl
     have hag:=bC.1 hb
     subst hag
     split at hc
     ·cases hc
     ·rename_i hhd
      simp only [Bool.or_eq_false_iff,Bool.and_eq_false_iff] at hhd
      have h1:h≠d:=fun e=>by
       have:=hhd.1
       rw [e,show Nat.beq d d=true from Nat.beq_refl d] at this
       cases this
      have h2:s=h→i=0:=fun e=>by
       rcases hhd.2 with h3 | h3
       ·rw [e,show Nat.beq h h=true from Nat.beq_refl h] at h3
        cases h3
       ·by_cases h0:i=0
        ·exact h0
        ·rw [show Nat.ble 1 i=true from Nat.ble_eq_true_of_le (by omega)] at h3
         cases h3
      have h3:cs≠[]:=QQ (s:=s) (j:=0) (by rw [hpl];simp)
      split at hc
      ·rename_i b os hLh
       split at hc
       ·rename_i aas hio
        split at hc
        ·rename_i hok
         simp only [Option.some.injEq,Prod.mk.injEq] at hc
         obtain ⟨hu,rfl⟩:=hc
         simp only [Bool.and_eq_true] at hok
         exact Kn hw hG hP hL hg hod hd ho hce hΦ hps hargs hyw.1 hs h1 h2 h3 hio hok.1 hok.2 (.inl ⟨b,rfl⟩) hLh hu.symm hp
        ·cases hc
       ·cases hc
      ·rename_i os hLh
       split at hc
       ·rename_i aas hio
        split at hc
        ·rename_i hok
         simp only [Option.some.injEq,Prod.mk.injEq] at hc
         obtain ⟨hu,rfl⟩:=hc
         simp only [Bool.and_eq_true] at hok
         exact Kn hw hG hP hL hg hod hd ho hce hΦ hps hargs hyw.1 hs h1 h2 h3 hio hok.1 hok.2 (.inr rfl) hLh hu.symm hp
        ·cases hc
       ·cases hc
      ·cases hc
    ·cases hc
   ·rename_i p' h i hs
    split at hc
    ·rename_i h' i' ff off hb hLp
     have hag:=bC.1 hb
     subst hag
     split at hc
     ·rename_i hok
      simp only [Option.some.injEq,Prod.mk.injEq] at hc
      obtain ⟨hu,rfl⟩:=hc
      simp only [Bool.and_eq_true,Bool.not_eq_true'] at hok
      obtain ⟨⟨⟨⟨k1,k2⟩,k3⟩,k4⟩,k5⟩:=hok
      have k1':h=h':=Nat.eq_of_beq_eq_true k1
      have k2':i=i':=Nat.eq_of_beq_eq_true k2
      subst k1';subst k2'
      have h1:h≠d:=fun e=>by
       rw [e,show Nat.beq d d=true from Nat.beq_refl d] at k5
       cases k5
      exact XJ hw hG hP hL hg hod hd ho hce hΦ hps hargs hyw.1 hs hLp k3 k4 h1 hu.symm hp
     ·cases hc
    ·cases hc
   ·cases hc
  ·cases hc
 ·cases hc

end

end
section

theorem sV {f:Sig→Out}:∀ {l:List Sig} {r:Up×PS},wG f l=some r→∃ s∈l,f s=some r
 | [],r,h=>by cases h
 | s::l,r,h=>by
  simp only [wG] at h
  split at h
  ·rename_i o ho
   exact ⟨s,List.mem_cons_self ..,by rw [ho];exact h⟩
  ·obtain ⟨s',h1,h2⟩:=sV h
   exact ⟨s',List.mem_cons_of_mem _ h1,h2⟩

theorem ET {Φ:Ask}{p:PS}{e e':Env}(h:HL p=true)(hp:cG Φ p e e'):pstep p e=some e':=by
 cases p<;>first | exact hp | cases h

section
variable {P:Program}{C:Cfg}{W:Wld}{w0:World}{own0:Own}{cx:Cx}{own:Own}{w:World}{a:Act}{env env':Env}{L:Look}{g:Gd}{o:Oper}{u:Up}{p:PS}{d:Nat}{Φ:Ask}

theorem XK (hC:CfgOk P C)(hE:EqOk P C)(hΦ:∀ f sig ins outs,Φ f sig ins outs→FunOk P W f sig ins outs)(hw:WOk w0 own0 cx own w)(hG:∀ g,cx.N g→W.G≤g)(hP:W.P w)
  (hL:∀ z,SlotOk w cx own env (tvA a) z (L z))(hg:∀ gs b,g=some (gs,b)→env gs=[.bool b])
  (hd:∀ d,o.dst=some d→d<a.tmps.size)(hn:∀ d sh,u.dst=some (d,sh)→sh.names d=false)(hk:(nJ o.op||HL p)=true)(hc:Ys C L g o=some (u,p))(hp:cG Φ p env env'):xN P cx own w a env o u env':=by
 cases hcl:nJ o.op with
 | false=>
  rw [hcl] at hk
  exact aE1 hC hE hw hL hg hd hn (ET (by simpa using hk) hp) hcl hc
 | true=>
  unfold nJ at hcl
  split at hcl
  ·rename_i c ho
   split at hcl
   ·rename_i x hce
    unfold Ys at hc
    split at hc
    all_goals try (rename_i he _;rw [ho] at he;cases he)
    all_goals try (rename_i he _ _;rw [ho] at he;cases he)
    ·rename_i he
     split at hc
     ·rename_i hb _ _;rw [hce] at hb;cases hb
     ·rename_i hb _;rw [hce] at hb;cases hb
     ·rename_i hb _ _;rw [hce] at hb;cases hb
     ·rename_i f hb
      obtain ⟨sig,_,h⟩:=sV hc
      split at h
      ·rename_i r hr
       simp only [Option.some.injEq] at h
       rw [h] at hr
       exact ZT hw hG hP hL hg he (hd _ he) ho hb (hΦ f sig) hr hp
      ·exact aC6 hw hG hP hL hg he (hd _ he) ho hb (hΦ f sig) h hp
     ·rename_i s hb
      split at hc
      ·rename_i f deps hsh
       obtain ⟨sig,_,h⟩:=sV hc
       exact XD hw hG hP hL hg he (hd _ he) ho hb hsh (hΦ f sig) h hp
      ·cases hc
     ·cases hc
    ·cases hc
   ·cases hcl
  ·cases hcl

def aC7 (P:Program)(ops:Array Oper)(cx:Cx)(own:Own)(w:World)(a:Act)(env:Env)(i:Nat)(u:Up)(env':Env):Prop:=
 ∀ (K:Act→World→Prop) (Q:Exit→Act→World→Prop),(∀ own' w' a',Done cx own w a env u own' w' a' env'→K a' w')→wpOp P ops Q i K a w

theorem QR {ops:Array Oper}{j gs:Nat}(h:(ops[j]?).bind (·.dst)=some gs):yielded ops a.tmps j=match tvA a gs with | .bool b=>some b | _=>none:=by
 unfold yielded tvA
 rw [h]
 simp only [Option.bind_some,Array.getD_eq_getD_getElem?]
 cases hg:a.tmps[gs]? with
 | none=>rfl
 | some v=>cases v<;>rfl

theorem aC8 {s:Nat}:∀ {sh:Sh},ZA sh=true→SlotOk w cx own env (tvA a) s sh→∀ b,env s=[.bool b]↔tvA a s= .bool b:=by
 intro sh
 induction sh with
 | v ag cs=>
  intro h hs b
  unfold ZA at h
  split at h
  ·rename_i e
   simp only [Sh.v.injEq] at e
   obtain ⟨rfl,rfl⟩:=e
   obtain ⟨vs,h1,h2,h3⟩:=hs
   obtain ⟨d,v,h4,rfl,h5⟩:=h3.one
   rw [h4,h1]
   have h6:=h5.2
   show [d]=[.bool b]↔v= .bool b
   constructor
   ·intro e
    simp only [List.cons.injEq,and_true] at e
    rw [e] at h6
    exact Scal.bool' h6
   ·intro e
    rw [e] at h6
    cases h6
    rfl
  ·rename_i e;cases e
  ·cases h
 | opt g b' sh ih=>
  intro h hs b
  simp only [ZA] at h
  by_cases hg:env g=[.bool b']
  ·exact ih h (hs.1 hg) b
  ·obtain ⟨h1,h2⟩:=hs.2 hg
   rw [h1,h2]
   constructor
   ·intro e;cases e
   ·intro e;cases e
 | _=>intro h;simp [ZA] at h

theorem XL {p:Nat×Sh}(h:gBx L d p=true):p.1≠d∧L p.1=p.2∧∃ cs,p.2= .box false cs∧∀ c∈cs,WO c=true:=by
 unfold gBx at h
 simp only [Bool.and_eq_true,decide_eq_true_eq,Bool.not_eq_true'] at h
 refine ⟨fun e=>?_,h.1.2,?_⟩
 ·have h1:=h.1.1
  rw [e,show Nat.beq d d=true from Nat.beq_refl d] at h1
  cases h1
 have h2:=h.2
 split at h2
 ·rename_i cs e
  exact ⟨cs,e,fun c hc=>List.all_eq_true.1 h2 c hc⟩
 ·cases h2

theorem NX {x:Aff}(h:HM x=true):dL x:=by
 unfold HM at h
 split at h
 ·rename_i e1 e2;exact ⟨e1.trans e2.symm,.inr (.inl e2)⟩
 ·rename_i e1 e2;exact ⟨e1.trans e2.symm,.inr (.inr (.inr e2))⟩
 ·rename_i e1 e2;exact ⟨e1.trans e2.symm,.inr (.inr (.inl e2))⟩
 ·cases h

theorem Done.opt {aas:List Aff}{bx:List (Nat×Sh)}{sh:Sh}{gs:Nat}{b:Bool}{own':Own}{w':World}{a':Act}(hD:Done cx own w a env {aff:=aas,bx:=bx,dst:=some (d,sh) } own' w' a' env')(hgd:gs≠d)(hgb:∀ p∈bx,p.1≠gs)(hg:env gs=[.bool b]):
  Done cx own w a env {aff:=aas,bx:=bx,dst:=some (d,.opt gs b sh) } own' w' a' env':=by
 have henv:env' gs=env gs:=hD.st.env gs (by
  rintro (h | ⟨p,hp,h⟩)
  ·exact hgd (Nat.eq_of_beq_eq_true h)
  ·exact hgb p hp h)
 refine ⟨hD.st,⟨hD.af.no,hD.af.to,hD.af.ow,hD.af.drop⟩,hD.bx,fun d' sh' h=>?_,hD.size,hD.defers⟩
 simp only [Option.some.injEq,Prod.mk.injEq] at h
 obtain ⟨rfl,rfl⟩:=h
 exact ⟨fun _=>hD.dst d sh rfl,fun h=>absurd (henv.trans hg) h⟩

theorem AE (hsz:a.tmps.size=C.n){ops:Array Oper}(hc:HN C ops L o=some (u,p)):
  (∀ d sh,u.dst=some (d,sh)→sh.names d=false∧d<a.tmps.size∧C.pin.any (Nat.beq d)=false)∧o.dst=u.dst.map (·.1)∧
  ((o.guard=none∧Ys C L none o=some (u,p)∧(nJ o.op||HL p)=true)∨
   (∃ j b gs aas bx d sh ps,o.guard=some (j,b)∧(ops[j]?).bind (·.dst)=some gs∧Ys C L (some (gs,b)) o=some ({aff:=aas,bx:=bx,dst:=some (d,sh) },ps)∧(nJ o.op||HL ps)=true∧
    u={aff:=aas,bx:=bx,dst:=some (d,.opt gs b sh) }∧p= .g gs b d ps∧gs≠d∧bx.all (gBx L d)=true∧aas.all HM=true∧ZA (L gs)=true∧bE aas=true)):=by
 unfold HN at hc
 split at hc
 ·cases hc
 rename_i u0 p0 h0
 split at hc
 ·cases hc
 rename_i hkind
 have hup:u0=u∧p0=p∧(∀ d sh,u.dst=some (d,sh)→sh.names d=false∧d<a.tmps.size∧C.pin.any (Nat.beq d)=false)∧o.dst=u.dst.map (·.1):=by
  split at hc
  ·rename_i hod hdn
   simp only [Option.some.injEq,Prod.mk.injEq] at hc
   obtain ⟨rfl,rfl⟩:=hc
   exact ⟨rfl,rfl,(fun d sh h=>by rw [hdn] at h;cases h),by rw [hod,hdn];rfl⟩
  ·rename_i d0 d sh hod hds
   split at hc
   ·cases hc
   ·rename_i hnn
    simp only [Option.some.injEq,Prod.mk.injEq] at hc
    obtain ⟨rfl,rfl⟩:=hc
    simp only [Bool.or_eq_false_iff,Bool.not_eq_false'] at hnn
    refine ⟨rfl,rfl,(fun d' sh' h=>?_),by rw [hod,hds,Nat.eq_of_beq_eq_true hnn.1.1.1];rfl⟩
    rw [hds] at h
    simp only [Option.some.injEq,Prod.mk.injEq] at h
    obtain ⟨rfl,rfl⟩:=h
    refine ⟨hnn.1.1.2,?_,hnn.2⟩
    rw [hsz]
    rcases Nat.lt_or_ge d C.n with h | h
    ·exact h
    ·rw [Nat.ble_eq_true_of_le h] at hnn;cases hnn.1.2
  ·cases hc
 obtain ⟨rfl,rfl,hdn,hod⟩:=hup
 refine ⟨hdn,hod,?_⟩
 unfold WP at h0
 split at h0
 ·rename_i hgd
  exact .inl ⟨hgd,h0,by rw [hgd] at hkind;simpa using hkind⟩
 ·rename_i j b hgd
  split at h0
  ·cases h0
  rename_i gs hgs
  split at h0
  ·rename_i aas bx d sh ps hcop
   split at h0
   ·cases h0
   rename_i hkp
   split at h0
   ·cases h0
   rename_i hcond
   simp only [Option.some.injEq,Prod.mk.injEq] at h0
   obtain ⟨rfl,rfl⟩:=h0
   simp only [Bool.not_eq_true,Bool.or_eq_false_iff,Bool.not_eq_false',decide_eq_false_iff_not] at hcond hkp
   obtain ⟨⟨⟨⟨hgd',hbx⟩,has⟩,hgk⟩,hnd⟩:=hcond
   exact .inr ⟨j,b,gs,aas,bx,d,sh,ps,hgd,hgs,hcop,hkp,rfl,rfl,hgd',hbx,has,hgk,hnd⟩
  ·cases h0

theorem Ko (hw:WOk w0 own0 cx own w)(hL:∀ z,SlotOk w cx own env (tvA a) z (L z)){gs:Nat}{b:Bool}{aas:List Aff}{bx:List (Nat×Sh)}{sh:Sh}(hod:o.dst=some d)(hds:d<a.tmps.size)(hgd':gs≠d)(hbx:bx.all (gBx L d)=true)(has:aas.all HM=true)
  (hnd:bE aas=true)(hgf:env gs≠[.bool b]):∃ own',Done cx own w a env {aff:=aas,bx:=bx,dst:=some (d,.opt gs b sh) } own' w (a.put o.dst undef) (put env d []):=by
 rw [hod]
 have hmv:∀ x∈aas,dL x:=fun x hx=>NX (List.all_eq_true.1 has x hx)
 refine ⟨_,fG (nb:=none) (gb:=fun _=>False) hw (HeapOk.same_world own w _) (fun _ _ h=>h.elim) hnd (fun x hx=> .inl (hmv x hx)) (fun k h=>by cases h) (fun s hs=>?_) (fun s hs=>?_) (by simp [Act.put]) rfl (fun st af=>⟨fun q hq _=>?_,fun d' sh' h=>?_⟩)⟩
 ·exact cY _ _ _ _ (fun e=>hs (.inl (by rw [e];exact Nat.beq_refl d)))
 ·rw [aQ a d _ hds,if_neg (fun e=>hs (by rw [e];rfl))]
 ·obtain ⟨hqd,h1,cs,h2,h3⟩:=XL (List.all_eq_true.1 hbx q hq)
  have hq0:=hL q.1
  rw [h1] at hq0
  rw [h2] at hq0 ⊢
  obtain ⟨gg,cur,T,r1,r2,r3,r4⟩:=hq0
  simp only [Bool.false_eq_true,if_false] at r4
  refine ⟨gg,cur,T,by rw [aQ a d _ hds,if_neg hqd];exact r1,r2,⟨by rw [cY _ _ _ _ hqd];exact r3.1,by rw [cY _ _ _ _ hqd];exact r3.2.1,fun k c x v hc hx hv=>?_⟩,?_⟩
  ·rw [cY _ _ _ _ hqd] at hx
   have h4:=r3.2.2 k c x v hc hx hv
   refine ⟨h4.1,?_⟩
   have h5:=h4.2
   have h6:=h3 c (List.mem_of_getElem? hc)
   cases c with
   | n=>exact h5
   | s=>exact h5
   | r=>exact st.rs h5
   | b=>exact st.bs h5
   | x=>trivial
   | o m f=>cases h6
   | al _ _ _ _=>cases h6
  ·simp only [Bool.false_eq_true,if_false]
   rw [mH hw r4]
   unfold aX
   simp only
   rw [if_neg]
   intro h
   exact hqd (Nat.eq_of_beq_eq_true h)
 ·simp only [Option.some.injEq,Prod.mk.injEq] at h
  obtain ⟨rfl,rfl⟩:=h
  have henv:put env d [] gs=env gs:=cY _ _ _ _ hgd'
  exact ⟨fun h=>absurd (henv▸h) hgf,fun _=>⟨by rw [aQ a d _ hds,if_pos rfl],aI _ _ _⟩⟩

theorem uY {ops:Array Oper}(hgd:o.guard=none):Region.wanted o (yielded ops a.tmps)=true:=by unfold Region.wanted;rw [hgd]

theorem FP (hL:∀ z,SlotOk w cx own env (tvA a) z (L z)){ops:Array Oper}{j gs:Nat}{b:Bool}(hgd:o.guard=some (j,b))(hgs:(ops[j]?).bind (·.dst)=some gs)(hgk:ZA (L gs)=true):Region.wanted o (yielded ops a.tmps)=true↔env gs=[.bool b]:=by
 have hg1:=aC8 hgk (hL gs)
 have hy:=QR (a:=a) hgs
 unfold Region.wanted
 rw [hgd]
 simp only [hy]
 constructor
 ·intro h
  cases htv:tvA a gs with
  | bool b'=>
   rw [htv] at h
   simp only [beq_iff_eq,Option.some.injEq] at h
   exact (hg1 b).2 (by rw [htv,h])
  | _=>rw [htv] at h;simp at h
 ·intro h
  rw [(hg1 b).1 h]
  simp

theorem NY {gs:Nat}{bx:List (Nat×Sh)}(hbx:bx.all (gBx L d)=true)(hgk:ZA (L gs)=true):∀ p∈bx,p.1≠gs:=fun p hp e=>by
 obtain ⟨_,h1,cs,h2,_⟩:=XL (List.all_eq_true.1 hbx p hp)
 rw [e,h2] at h1
 rw [h1] at hgk
 cases hgk

theorem ZX (hC:CfgOk P C)(hE:EqOk P C)(hΦ:∀ f sig ins outs,Φ f sig ins outs→FunOk P W f sig ins outs)(hw:WOk w0 own0 cx own w)(hG:∀ g,cx.N g→W.G≤g)(hP:W.P w)
  (hL:∀ z,SlotOk w cx own env (tvA a) z (L z))(hsz:a.tmps.size=C.n){ops:Array Oper}{i:Nat}(hi:ops[i]? =some o)(hc:HN C ops L o=some (u,p))(hp:cG Φ p env env'):aC7 P ops cx own w a env i u env':=by
 intro K Q hK
 unfold wpOp
 rw [hi]
 simp only
 obtain ⟨hdn,hod,⟨hgd,h0,hk⟩ | ⟨j,b,gs,aas,bx,d,sh,ps,hgd,hgs,hcop,hkp,rfl,rfl,hgd',hbx,has,hgk,hnd⟩⟩:=AE hsz hc
 ·rw [if_pos (uY hgd)]
  refine .inl (XK hC hE hΦ hw hG hP hL (fun gs b h=>by cases h) (fun d hd=>?_) (fun d sh h=>(hdn d sh h).1) hk h0 hp K Q hK)
  rw [hod] at hd
  cases hu:u.dst with
  | none=>rw [hu] at hd;cases hd
  | some q=>
   rw [hu] at hd
   simp only [Option.map_some,Option.some.injEq] at hd
   rw [←hd]
   exact (hdn q.1 q.2 hu).2.1
 ·obtain ⟨hnm,hds,_⟩:=hdn d _ rfl
  have hod:o.dst=some d:=hod
  have hwt:=FP hL hgd hgs hgk
  simp only [cG] at hp
  rcases hp with ⟨hgt,hp⟩ | ⟨hgf,rfl⟩
  ·rw [if_pos (hwt.2 hgt)]
   refine .inl (XK hC hE hΦ hw hG hP hL (g:=some (gs,b)) (fun gs' b' h=>by
    simp only [Option.some.injEq,Prod.mk.injEq] at h
    obtain ⟨rfl,rfl⟩:=h
    exact hgt) (fun d' hd'=>?_) (fun d' sh' h=>?_) hkp hcop hp K Q (fun own' w' a' hD=>hK own' w' a' (hD.opt hgd' (NY hbx hgk) hgt)))
   ·rw [hod] at hd'
    simp only [Option.some.injEq] at hd'
    rw [←hd'];exact hds
   ·simp only [Option.some.injEq,Prod.mk.injEq] at h
    obtain ⟨rfl,rfl⟩:=h
    simp only [Sh.names,Bool.or_eq_false_iff] at hnm
    exact hnm.2
  ·rw [if_neg (fun h=>hgf (hwt.1 h))]
   obtain ⟨own',hD⟩:=Ko (sh:=sh) hw hL hod hds hgd' hbx has hnd hgf
   exact hK own' w _ hD

end

end
section

section
variable {P:Program}{C:Cfg}{W:Wld}{w0:World}{own0:Own}{cx:Cx}{own:Own}{w:World}{a:Act}{env env':Env}{L:Look}{g:Gd}{o:Oper}{u:Up}{p:PS}{d:Nat}{Φ:Ask}

theorem Kp {c:Call}(h:WS c=true):c.callee= .builtin .len:=by
 unfold WS at h
 split at h
 ·assumption
 ·cases h

theorem DV {op:Op}{p:PS}(h:HQ op p=true):nJ op=false:=by
 unfold HQ at h
 split at h<;>first
  | rfl
  | (rename_i c;unfold nJ;simp only [Kp h];done)
  | cases h

theorem XM (hC:CfgOk P C)(hw:WOk w0 own0 cx own w)(hL:∀ z,SlotOk w cx own env (tvA a) z (L z))(hg:∀ gs b,g=some (gs,b)→env gs=[.bool b])
  (hd:∀ d,o.dst=some d→d<a.tmps.size)(hn:∀ d sh,u.dst=some (d,sh)→sh.names d=false)(hp:pstep p env=some env')(hq:HQ o.op p=true)(hc:Ys C L g o=some (u,p)):jL P cx own w a env o u env':=by
 unfold Ys at hc
 split at hc
 case h_1=>rename_i x d ho hod;exact BA hw hL hg hod (hd d hod) hn hp (fun w2=>wK (w:=w2) x (.inl ho)) hc
 case h_3=>rename_i c x y d ho hod;exact TF hw hL hg hod (hd d hod) hn hp ho hc
 case h_10=>rename_i x d ho hod;exact Wf hw hL hg hod (hd d hod) hn hp ho hc
 case h_11=>
  rename_i op t x y pos d ho hod
  split at hc
  ·cases hc
  rename_i ti hti
  split at hc
  ·rename_i hs
   simp only [Bool.and_eq_true] at hs
   split at hc
   ·rename_i hde
    split at hc
    ·simp only [bS,Option.some.injEq,Prod.mk.injEq] at hc
     obtain ⟨rfl,rfl⟩:=hc
     exact Lk hw hL hg hod (hd d hod) hp ((hC t ti hti).bool hde) (.inl ⟨rfl,rfl⟩) ho hs.1 hs.2 rfl
    ·simp only [bS,Option.some.injEq,Prod.mk.injEq] at hc
     obtain ⟨rfl,rfl⟩:=hc
     exact Lk hw hL hg hod (hd d hod) hp ((hC t ti hti).bool hde) (.inr ⟨rfl,rfl⟩) ho hs.1 hs.2 rfl
    ·cases hc
   ·simp only [bS,Option.some.injEq,Prod.mk.injEq] at hc
    obtain ⟨rfl,rfl⟩:=hc
    exact Wd hw hL hg hod (hd d hod) hp ho hs.1 hs.2 rfl
  ·split at hc
   ·split at hc
    ·split at hc
     ·simp only [bS,Option.some.injEq,Prod.mk.injEq] at hc
      rw [ho,←hc.2] at hq;cases hq
     ·simp only [bS,Option.some.injEq,Prod.mk.injEq] at hc
      rw [ho,←hc.2] at hq;cases hq
     ·cases hc
    ·cases hc
   ·cases hc
 case h_12=>
  rename_i op t x d ho hod
  split at hc
  ·rename_i hx
   simp only [bS,Option.some.injEq,Prod.mk.injEq] at hc
   obtain ⟨rfl,rfl⟩:=hc
   exact aB3 hw hL hg hod (hd d hod) hp ho hx rfl
  ·cases hc
 case h_16=>rename_i t x k d ho hod;exact DI hC hw hL hg hod (hd d hod) hn hp ho hc
 case h_17=>rename_i t x k d ho hod;exact NK hC hw hL hg hod (hd d hod) hn hp ho hc
 case h_18=>rename_i t x i d ho hod;exact DJ hC hw hL hg hod (hd d hod) hn hp ho hc
 case h_19=>rename_i t x i d ho hod;exact NJ hC hw hL hg hod (hd d hod) hn hp ho hc
 case h_20=>rename_i x k d ho hod;exact Hb hC hw hL hg hod (hd d hod) hn hp ho hc
 case h_22=>
  rename_i c d ho hod
  rw [ho] at hq
  have hce:=Kp hq
  split at hc
  ·rename_i x t hb hargs htys
   split at hc
   ·rename_i ti hti
    split at hc
    ·rename_i e hde
     split at hc
     ·rename_i k hk
      simp only [bS,Option.some.injEq,Prod.mk.injEq] at hc
      obtain ⟨rfl,rfl⟩:=hc
      exact TG hC hw hL hg hod (hd d hod) hn hp ho hb hargs htys hti hde hk rfl
     ·cases hc
    ·rename_i hde
     split at hc
     ·rename_i hk
      simp only [bS,Option.some.injEq,Prod.mk.injEq] at hc
      obtain ⟨rfl,rfl⟩:=hc
      exact TH hC hw hL hg hod (hd d hod) hn hp ho hb hargs htys hti hde hk rfl
     ·cases hc
    ·cases hc
   ·cases hc
  ·rename_i hb _;rw [hce] at hb;cases hb
  ·rename_i hb _ _;rw [hce] at hb;cases hb
  ·rename_i hb;rw [hce] at hb;cases hb
  ·rename_i hb;rw [hce] at hb;cases hb
  ·cases hc
 all_goals try (rename_i ho _;rw [ho] at hq;cases hq)
 all_goals try (rename_i ho _ _;rw [ho] at hq;cases hq)
 all_goals cases hc

theorem XN (hC:CfgOk P C)(hw:WOk w0 own0 cx own w)(hL:∀ z,SlotOk w cx own env (tvA a) z (L z))(hsz:a.tmps.size=C.n){ops:Array Oper}
  (hc:HN C ops L o=some (u,p))(hq:HR o p=true)(hp:cG Φ p env env'):∃ v own',Yields P ops o v a∧Done cx own w a env u own' w (a.put o.dst v) env':=by
 obtain ⟨hdn,hod,⟨hgd,h0,hk⟩ | ⟨j,b,gs,aas,bx,d,sh,ps,hgd,hgs,hcop,hkp,rfl,rfl,hgd',hbx,has,hgk,hnd⟩⟩:=AE hsz hc
 ·have hdd:∀ d,o.dst=some d→d<a.tmps.size:=fun d hd=>by
   rw [hod] at hd
   cases hu:u.dst with
   | none=>rw [hu] at hd;cases hd
   | some q=>
    rw [hu] at hd
    simp only [Option.map_some,Option.some.injEq] at hd
    rw [←hd]
    exact (hdn q.1 q.2 hu).2.1
  unfold HR at hq
  rw [hgd] at hq
  have hnc:nJ o.op=false:=DV hq
  rw [hnc] at hk
  obtain ⟨v,own',hr,hD⟩:=XM hC hw hL (fun gs b h=>by cases h) hdd (fun d sh h=>(hdn d sh h).1) (ET (by simpa using hk) hp) hq h0
  exact ⟨v,own',.inl ⟨uY hgd,hr⟩,hD⟩
 ·obtain ⟨hnm,hds,_⟩:=hdn d _ rfl
  have hod:o.dst=some d:=hod
  have hwt:=FP hL hgd hgs hgk
  unfold HR at hq
  rw [hgd] at hq
  dsimp only at hq
  have hnc:nJ o.op=false:=DV hq
  rw [hnc] at hkp
  simp only [cG] at hp
  rcases hp with ⟨hgt,hp⟩ | ⟨hgf,rfl⟩
  ·obtain ⟨v,own',hr,hD⟩:=XM hC hw hL (g:=some (gs,b)) (fun gs' b' h=>by
    simp only [Option.some.injEq,Prod.mk.injEq] at h
    obtain ⟨rfl,rfl⟩:=h
    exact hgt) (fun d' hd'=>by
     rw [hod] at hd'
     simp only [Option.some.injEq] at hd'
     rw [←hd'];exact hds) (fun d' sh' h=>by
     simp only [Option.some.injEq,Prod.mk.injEq] at h
     obtain ⟨rfl,rfl⟩:=h
     simp only [Sh.names,Bool.or_eq_false_iff] at hnm
     exact hnm.2) (ET (by simpa using hkp) hp) hq hcop
   exact ⟨v,own',.inl ⟨hwt.2 hgt,hr⟩,hD.opt hgd' (NY hbx hgk) hgt⟩
  ·obtain ⟨own',hD⟩:=Ko (sh:=sh) hw hL hod hds hgd' hbx has hnd hgf
   refine ⟨undef,own',.inr ⟨?_,rfl⟩,hD⟩
   cases hb:Region.wanted o (yielded ops a.tmps) with
   | false=>rfl
   | true=>exact absurd (hwt.1 hb) hgf

end

end
section

def zG (e:Env):List (Nat×List D)→Env
  | []=>e
  | (d,c)::r=>zG (put e d c) r

theorem pP:∀ {l:List (Nat×List D)} {e:Env} {s:Nat},s∉l.map (·.1)→zG e l s=e s
  | [],_,_,_=>rfl
  | (d,c)::r,e,s,h=>by
    simp only [List.map_cons,List.mem_cons,not_or] at h
    simp only [zG]
    rw [pP h.2,cY _ _ _ _ h.1]

theorem Hr:∀ {l:List (Nat×List D)} {e e':Env} {s:Nat},s∈l.map (·.1)→zG e l s=zG e' l s
  | [],_,_,_,h=>by simp at h
  | (d,c)::r,e,e',s,h=>by
    simp only [zG]
    by_cases hr:s∈r.map (·.1)
    · exact Hr hr
    · simp only [List.map_cons,List.mem_cons] at h
      have hs:s=d:=h.resolve_right hr
      rw [pP hr,pP hr,hs,aI,aI]

theorem Ub {l m:List (Nat×List D)}{e:Env}(h:∀ x∈l.map (·.1),x∉m.map (·.1)):zG (zG e l) m=zG (zG e m) l:=by
  funext s
  by_cases hl:s∈l.map (·.1)
  · rw [pP (h s hl)]
    exact Hr hl
  · rw [pP hl]
    by_cases hm:s∈m.map (·.1)
    · exact Hr hm
    · rw [pP hm,pP hm,pP hl]

def aE2 (Φ:Ask)(p:PS)(e e':Env):Prop:=
  ∃ l:List (Nat×List D),(∀ x∈l.map (·.1),x∈p.wr)∧e'=zG e l∧∀ e2:Env,(∀ s∈p.rd,e2 s=e s)→cG Φ p e2 (zG e2 l)

theorem Opd.get_eq {x:Opd}{e e2:Env}(h:∀ s∈x.rd,e2 s=e s):x.get e2=x.get e:=by
  cases x with
  | t s=>exact h s (List.mem_singleton.2 rfl)
  | c d=>rfl

theorem Hs {o:Option Opd}{e e2:Env}{n:Nat}(h:∀ s∈rdO o,e2 s=e s):EM e2 o n=EM e o n:=by
  cases o with
  | none=>rfl
  | some x=>simp only [EM];rw [Opd.get_eq h]

theorem TS {e e2:Env}:∀ {ps:List (Nat×Opd)} {xs:List (List D)},(∀ s∈rdP ps,e2 s=e s)→CI e2 xs ps=CI e xs ps
  | [],_,_=>rfl
  | (k,x)::r,xs,h=>by
    simp only [CI]
    rw [Opd.get_eq (fun s hs=>h s (List.mem_append_left _ hs)),TS (fun s hs=>h s (List.mem_append_right _ hs))]

theorem TU {e e2:Env}:∀ {ps:List (Nat×Opd)} {c:List D},(∀ s∈rdP ps,e2 s=e s)→DA e2 c ps=DA e c ps
  | [],_,_=>rfl
  | (k,x)::r,c,h=>by
    simp only [DA]
    rw [Opd.get_eq (fun s hs=>h s (List.mem_append_left _ hs)),TU (fun s hs=>h s (List.mem_append_right _ hs))]

theorem QS {e e2:Env}:∀ {l:List Opd},(∀ s∈rdL l,e2 s=e s)→l.map (·.get e2)=l.map (·.get e)
  | [],_=>rfl
  | x::r,h=>by
    simp only [List.map_cons]
    rw [Opd.get_eq (fun s hs=>h s (List.mem_append_left _ hs)),QS (fun s hs=>h s (List.mem_append_right _ hs))]

theorem XO {e e2:Env}:∀ {l:List (Bool×Opd)},(∀ s∈rdF l,e2 s=e s)→(l.map fun p=>(p.1,p.2.get e2))=l.map fun p=>(p.1,p.2.get e)
  | [],_=>rfl
  | (b,x)::r,h=>by
    simp only [List.map_cons]
    rw [Opd.get_eq (fun s hs=>h s (List.mem_append_left _ hs)),XO (fun s hs=>h s (List.mem_append_right _ hs))]

theorem cJ {Φ:Ask}{p:PS}{e e':Env}{d:Nat}{c:List D}(hw:d∈p.wr)(he:e'=put e d c)(h:∀ e2:Env,(∀ s∈p.rd,e2 s=e s)→cG Φ p e2 (put e2 d c)):aE2 Φ p e e':=
  ⟨[(d,c)],by simpa using hw,he,h⟩

theorem Lu {Φ:Ask}:∀ {p:PS} {e e':Env},cG Φ p e e'→aE2 Φ p e e'
  | .nop,e,e',hp=>by
    simp only [cG,pstep,Option.some.injEq] at hp
    subst hp
    exact ⟨[],by simp,rfl,fun e2 _=>rfl⟩
  | .mv d x,e,e',hp=>by
    have key:∀ e2:Env,(∀ t∈(PS.mv d x).rd,e2 t=e t)→∃ vv,e'=put e d vv∧pstep (.mv d x) e2=some (put e2 d vv):=by
      intro e2 h2
      have hx:Opd.get e2 x=Opd.get e x:=Opd.get_eq (fun s hs=>h2 s (by simp [PS.rd,hs]))
      simp only [cG,pstep] at hp
      simp only [pstep,hx]
      clear h2
      revert hp
      first
        | ((repeat' split)<;>intro hp<;>first
            | (cases hp;done)
            | (simp only [Option.some.injEq] at hp
               exact ⟨_,hp.symm,rfl⟩))
        | (intro hp
           (repeat' (split at hp))<;>first
            | (cases hp;done)
            | (simp only [Option.some.injEq] at hp
               refine ⟨_,hp.symm,?_⟩
               simp [*]))
    obtain ⟨vv,hc,_⟩:=key e (fun _ _=>rfl)
    refine cJ (d:=d) (c:=vv) (by simp [PS.wr]) hc (fun e2 h2=>?_)
    obtain ⟨c2,hc2,hp2⟩:=key e2 h2
    have:vv=c2:=by
      have:=congrFun (hc.symm.trans hc2) d
      rwa [aI,aI] at this
    rw [this]
    exact hp2
  | .sub d s off n,e,e',hp=>by
    have key:∀ e2:Env,(∀ t∈(PS.sub d s off n).rd,e2 t=e t)→∃ vv,e'=put e d vv∧pstep (.sub d s off n) e2=some (put e2 d vv):=by
      intro e2 h2
      have gs:e2 s=e s:=h2 s (by simp [PS.rd])
      simp only [cG,pstep] at hp
      simp only [pstep,gs]
      clear h2
      revert hp
      first
        | ((repeat' split)<;>intro hp<;>first
            | (cases hp;done)
            | (simp only [Option.some.injEq] at hp
               exact ⟨_,hp.symm,rfl⟩))
        | (intro hp
           (repeat' (split at hp))<;>first
            | (cases hp;done)
            | (simp only [Option.some.injEq] at hp
               refine ⟨_,hp.symm,?_⟩
               simp [*]))
    obtain ⟨vv,hc,_⟩:=key e (fun _ _=>rfl)
    refine cJ (d:=d) (c:=vv) (by simp [PS.wr]) hc (fun e2 h2=>?_)
    obtain ⟨c2,hc2,hp2⟩:=key e2 h2
    have:vv=c2:=by
      have:=congrFun (hc.symm.trans hc2) d
      rwa [aI,aI] at this
    rw [this]
    exact hp2
  | .bld d z ps,e,e',hp=>by
    have key:∀ e2:Env,(∀ t∈(PS.bld d z ps).rd,e2 t=e t)→∃ vv,e'=put e d vv∧pstep (.bld d z ps) e2=some (put e2 d vv):=by
      intro e2 h2
      have hl:DA e2 z ps=DA e z ps:=TU (fun s hs=>h2 s (by simpa [PS.rd] using hs))
      simp only [cG,pstep] at hp
      simp only [pstep,hl]
      clear h2
      revert hp
      first
        | ((repeat' split)<;>intro hp<;>first
            | (cases hp;done)
            | (simp only [Option.some.injEq] at hp
               exact ⟨_,hp.symm,rfl⟩))
        | (intro hp
           (repeat' (split at hp))<;>first
            | (cases hp;done)
            | (simp only [Option.some.injEq] at hp
               refine ⟨_,hp.symm,?_⟩
               simp [*]))
    obtain ⟨vv,hc,_⟩:=key e (fun _ _=>rfl)
    refine cJ (d:=d) (c:=vv) (by simp [PS.wr]) hc (fun e2 h2=>?_)
    obtain ⟨c2,hc2,hp2⟩:=key e2 h2
    have:vv=c2:=by
      have:=congrFun (hc.symm.trans hc2) d
      rwa [aI,aI] at this
    rw [this]
    exact hp2
  | .lit d n z ps,e,e',hp=>by
    have key:∀ e2:Env,(∀ t∈(PS.lit d n z ps).rd,e2 t=e t)→∃ vv,e'=put e d vv∧pstep (.lit d n z ps) e2=some (put e2 d vv):=by
      intro e2 h2
      have hl:CI e2 (List.replicate n z) ps=CI e (List.replicate n z) ps:=TS (fun s hs=>h2 s (by simpa [PS.rd] using hs))
      simp only [cG,pstep] at hp
      simp only [pstep,hl]
      clear h2
      revert hp
      first
        | ((repeat' split)<;>intro hp<;>first
            | (cases hp;done)
            | (simp only [Option.some.injEq] at hp
               exact ⟨_,hp.symm,rfl⟩))
        | (intro hp
           (repeat' (split at hp))<;>first
            | (cases hp;done)
            | (simp only [Option.some.injEq] at hp
               refine ⟨_,hp.symm,?_⟩
               simp [*]))
    obtain ⟨vv,hc,_⟩:=key e (fun _ _=>rfl)
    refine cJ (d:=d) (c:=vv) (by simp [PS.wr]) hc (fun e2 h2=>?_)
    obtain ⟨c2,hc2,hp2⟩:=key e2 h2
    have:vv=c2:=by
      have:=congrFun (hc.symm.trans hc2) d
      rwa [aI,aI] at this
    rw [this]
    exact hp2
  | .mk d z n c,e,e',hp=>by
    have key:∀ e2:Env,(∀ t∈(PS.mk d z n c).rd,e2 t=e t)→∃ vv,e'=put e d vv∧pstep (.mk d z n c) e2=some (put e2 d vv):=by
      intro e2 h2
      have hn:Opd.get e2 n=Opd.get e n:=Opd.get_eq (fun s hs=>h2 s (by simp [PS.rd,hs]))
      have hc:Opd.get e2 c=Opd.get e c:=Opd.get_eq (fun s hs=>h2 s (by simp [PS.rd,hs]))
      simp only [cG,pstep] at hp
      simp only [pstep,hn,hc]
      clear h2
      revert hp
      first
        | ((repeat' split)<;>intro hp<;>first
            | (cases hp;done)
            | (simp only [Option.some.injEq] at hp
               exact ⟨_,hp.symm,rfl⟩))
        | (intro hp
           (repeat' (split at hp))<;>first
            | (cases hp;done)
            | (simp only [Option.some.injEq] at hp
               refine ⟨_,hp.symm,?_⟩
               simp [*]))
    obtain ⟨vv,hc,_⟩:=key e (fun _ _=>rfl)
    refine cJ (d:=d) (c:=vv) (by simp [PS.wr]) hc (fun e2 h2=>?_)
    obtain ⟨c2,hc2,hp2⟩:=key e2 h2
    have:vv=c2:=by
      have:=congrFun (hc.symm.trans hc2) d
      rwa [aI,aI] at this
    rw [this]
    exact hp2
  | .st b off x,e,e',hp=>by
    have key:∀ e2:Env,(∀ t∈(PS.st b off x).rd,e2 t=e t)→∃ vv,e'=put e b vv∧pstep (.st b off x) e2=some (put e2 b vv):=by
      intro e2 h2
      have hx:Opd.get e2 x=Opd.get e x:=Opd.get_eq (fun s hs=>h2 s (by simp [PS.rd,hs]))
      have gb:e2 b=e b:=h2 b (by simp [PS.rd])
      simp only [cG,pstep] at hp
      simp only [pstep,hx,gb]
      clear h2
      revert hp
      first
        | ((repeat' split)<;>intro hp<;>first
            | (cases hp;done)
            | (simp only [Option.some.injEq] at hp
               exact ⟨_,hp.symm,rfl⟩))
        | (intro hp
           (repeat' (split at hp))<;>first
            | (cases hp;done)
            | (simp only [Option.some.injEq] at hp
               refine ⟨_,hp.symm,?_⟩
               simp [*]))
    obtain ⟨vv,hc,_⟩:=key e (fun _ _=>rfl)
    refine cJ (d:=b) (c:=vv) (by simp [PS.wr]) hc (fun e2 h2=>?_)
    obtain ⟨c2,hc2,hp2⟩:=key e2 h2
    have:vv=c2:=by
      have:=congrFun (hc.symm.trans hc2) b
      rwa [aI,aI] at this
    rw [this]
    exact hp2
  | .bin d op x y,e,e',hp=>by
    have key:∀ e2:Env,(∀ t∈(PS.bin d op x y).rd,e2 t=e t)→∃ vv,e'=put e d vv∧pstep (.bin d op x y) e2=some (put e2 d vv):=by
      intro e2 h2
      have hx:Opd.get e2 x=Opd.get e x:=Opd.get_eq (fun s hs=>h2 s (by simp [PS.rd,hs]))
      have hy:Opd.get e2 y=Opd.get e y:=Opd.get_eq (fun s hs=>h2 s (by simp [PS.rd,hs]))
      simp only [cG,pstep] at hp
      simp only [pstep,hx,hy]
      clear h2
      revert hp
      cases Jn (BR op) (Opd.get e x) (Opd.get e y) with
      | none=>intro hp;cases hp
      | some c=>
        intro hp
        simp only [Option.map_some,Option.some.injEq] at hp
        exact ⟨c,hp.symm,rfl⟩
    obtain ⟨vv,hc,_⟩:=key e (fun _ _=>rfl)
    refine cJ (d:=d) (c:=vv) (by simp [PS.wr]) hc (fun e2 h2=>?_)
    obtain ⟨c2,hc2,hp2⟩:=key e2 h2
    have:vv=c2:=by
      have:=congrFun (hc.symm.trans hc2) d
      rwa [aI,aI] at this
    rw [this]
    exact hp2
  | .un d op x,e,e',hp=>by
    have key:∀ e2:Env,(∀ t∈(PS.un d op x).rd,e2 t=e t)→∃ vv,e'=put e d vv∧pstep (.un d op x) e2=some (put e2 d vv):=by
      intro e2 h2
      have hx:Opd.get e2 x=Opd.get e x:=Opd.get_eq (fun s hs=>h2 s (by simp [PS.rd,hs]))
      simp only [cG,pstep] at hp
      simp only [pstep,hx]
      clear h2
      revert hp
      cases one (unV op) (Opd.get e x) with
      | none=>intro hp;cases hp
      | some c=>
        intro hp
        simp only [Option.map_some,Option.some.injEq] at hp
        exact ⟨c,hp.symm,rfl⟩
    obtain ⟨vv,hc,_⟩:=key e (fun _ _=>rfl)
    refine cJ (d:=d) (c:=vv) (by simp [PS.wr]) hc (fun e2 h2=>?_)
    obtain ⟨c2,hc2,hp2⟩:=key e2 h2
    have:vv=c2:=by
      have:=congrFun (hc.symm.trans hc2) d
      rwa [aI,aI] at this
    rw [this]
    exact hp2
  | .beq d neg x y,e,e',hp=>by
    have key:∀ e2:Env,(∀ t∈(PS.beq d neg x y).rd,e2 t=e t)→∃ vv,e'=put e d vv∧pstep (.beq d neg x y) e2=some (put e2 d vv):=by
      intro e2 h2
      have hx:Opd.get e2 x=Opd.get e x:=Opd.get_eq (fun s hs=>h2 s (by simp [PS.rd,hs]))
      have hy:Opd.get e2 y=Opd.get e y:=Opd.get_eq (fun s hs=>h2 s (by simp [PS.rd,hs]))
      simp only [cG,pstep] at hp
      simp only [pstep,hx,hy]
      clear h2
      revert hp
      first
        | ((repeat' split)<;>intro hp<;>first
            | (cases hp;done)
            | (simp only [Option.some.injEq] at hp
               exact ⟨_,hp.symm,rfl⟩))
        | (intro hp
           (repeat' (split at hp))<;>first
            | (cases hp;done)
            | (simp only [Option.some.injEq] at hp
               refine ⟨_,hp.symm,?_⟩
               simp [*]))
    obtain ⟨vv,hc,_⟩:=key e (fun _ _=>rfl)
    refine cJ (d:=d) (c:=vv) (by simp [PS.wr]) hc (fun e2 h2=>?_)
    obtain ⟨c2,hc2,hp2⟩:=key e2 h2
    have:vv=c2:=by
      have:=congrFun (hc.symm.trans hc2) d
      rwa [aI,aI] at this
    rw [this]
    exact hp2
  | .eqs d neg zs x y,e,e',hp=>by
    have key:∀ e2:Env,(∀ t∈(PS.eqs d neg zs x y).rd,e2 t=e t)→∃ vv,e'=put e d vv∧pstep (.eqs d neg zs x y) e2=some (put e2 d vv):=by
      intro e2 h2
      have hx:Opd.get e2 x=Opd.get e x:=Opd.get_eq (fun s hs=>h2 s (by simp [PS.rd,hs]))
      have hy:Opd.get e2 y=Opd.get e y:=Opd.get_eq (fun s hs=>h2 s (by simp [PS.rd,hs]))
      simp only [cG,pstep] at hp
      simp only [pstep,hx,hy]
      clear h2
      revert hp
      first
        | ((repeat' split)<;>intro hp<;>first
            | (cases hp;done)
            | (simp only [Option.some.injEq] at hp
               exact ⟨_,hp.symm,rfl⟩))
        | (intro hp
           (repeat' (split at hp))<;>first
            | (cases hp;done)
            | (simp only [Option.some.injEq] at hp
               refine ⟨_,hp.symm,?_⟩
               simp [*]))
    obtain ⟨vv,hc,_⟩:=key e (fun _ _=>rfl)
    refine cJ (d:=d) (c:=vv) (by simp [PS.wr]) hc (fun e2 h2=>?_)
    obtain ⟨c2,hc2,hp2⟩:=key e2 h2
    have:vv=c2:=by
      have:=congrFun (hc.symm.trans hc2) d
      rwa [aI,aI] at this
    rw [this]
    exact hp2
  | .pick d c a b,e,e',hp=>by
    have key:∀ e2:Env,(∀ t∈(PS.pick d c a b).rd,e2 t=e t)→∃ vv,e'=put e d vv∧pstep (.pick d c a b) e2=some (put e2 d vv):=by
      intro e2 h2
      have hc:Opd.get e2 c=Opd.get e c:=Opd.get_eq (fun s hs=>h2 s (by simp [PS.rd,hs]))
      have ha:Opd.get e2 a=Opd.get e a:=Opd.get_eq (fun s hs=>h2 s (by simp [PS.rd,hs]))
      have hb:Opd.get e2 b=Opd.get e b:=Opd.get_eq (fun s hs=>h2 s (by simp [PS.rd,hs]))
      simp only [cG,pstep] at hp
      simp only [pstep,hc,ha,hb]
      clear h2
      revert hp
      first
        | ((repeat' split)<;>intro hp<;>first
            | (cases hp;done)
            | (simp only [Option.some.injEq] at hp
               exact ⟨_,hp.symm,rfl⟩))
        | (intro hp
           (repeat' (split at hp))<;>first
            | (cases hp;done)
            | (simp only [Option.some.injEq] at hp
               refine ⟨_,hp.symm,?_⟩
               simp [*]))
    obtain ⟨vv,hc,_⟩:=key e (fun _ _=>rfl)
    refine cJ (d:=d) (c:=vv) (by simp [PS.wr]) hc (fun e2 h2=>?_)
    obtain ⟨c2,hc2,hp2⟩:=key e2 h2
    have:vv=c2:=by
      have:=congrFun (hc.symm.trans hc2) d
      rwa [aI,aI] at this
    rw [this]
    exact hp2
  | .elp d l i sz,e,e',hp=>by
    have key:∀ e2:Env,(∀ t∈(PS.elp d l i sz).rd,e2 t=e t)→∃ vv,e'=put e d vv∧pstep (.elp d l i sz) e2=some (put e2 d vv):=by
      intro e2 h2
      have hl:Opd.get e2 l=Opd.get e l:=Opd.get_eq (fun s hs=>h2 s (by simp [PS.rd,hs]))
      have hi:Opd.get e2 i=Opd.get e i:=Opd.get_eq (fun s hs=>h2 s (by simp [PS.rd,hs]))
      simp only [cG,pstep] at hp
      simp only [pstep,hl,hi]
      clear h2
      revert hp
      first
        | ((repeat' split)<;>intro hp<;>first
            | (cases hp;done)
            | (simp only [Option.some.injEq] at hp
               exact ⟨_,hp.symm,rfl⟩))
        | (intro hp
           (repeat' (split at hp))<;>first
            | (cases hp;done)
            | (simp only [Option.some.injEq] at hp
               refine ⟨_,hp.symm,?_⟩
               simp [*]))
    obtain ⟨vv,hc,_⟩:=key e (fun _ _=>rfl)
    refine cJ (d:=d) (c:=vv) (by simp [PS.wr]) hc (fun e2 h2=>?_)
    obtain ⟨c2,hc2,hp2⟩:=key e2 h2
    have:vv=c2:=by
      have:=congrFun (hc.symm.trans hc2) d
      rwa [aI,aI] at this
    rw [this]
    exact hp2
  | .eld d s off zs,e,e',hp=>by
    have key:∀ e2:Env,(∀ t∈(PS.eld d s off zs).rd,e2 t=e t)→∃ vv,e'=put e d vv∧pstep (.eld d s off zs) e2=some (put e2 d vv):=by
      intro e2 h2
      have gs:e2 s=e s:=h2 s (by simp [PS.rd])
      simp only [cG,pstep] at hp
      simp only [pstep,gs]
      clear h2
      revert hp
      first
        | ((repeat' split)<;>intro hp<;>first
            | (cases hp;done)
            | (simp only [Option.some.injEq] at hp
               exact ⟨_,hp.symm,rfl⟩))
        | (intro hp
           (repeat' (split at hp))<;>first
            | (cases hp;done)
            | (simp only [Option.some.injEq] at hp
               refine ⟨_,hp.symm,?_⟩
               simp [*]))
    obtain ⟨vv,hc,_⟩:=key e (fun _ _=>rfl)
    refine cJ (d:=d) (c:=vv) (by simp [PS.wr]) hc (fun e2 h2=>?_)
    obtain ⟨c2,hc2,hp2⟩:=key e2 h2
    have:vv=c2:=by
      have:=congrFun (hc.symm.trans hc2) d
      rwa [aI,aI] at this
    rw [this]
    exact hp2
  | .els s off h i x,e,e',hp=>by
    have key:∀ e2:Env,(∀ t∈(PS.els s off h i x).rd,e2 t=e t)→∃ vv,e'=put e h vv∧pstep (.els s off h i x) e2=some (put e2 h vv):=by
      intro e2 h2
      have hx:Opd.get e2 x=Opd.get e x:=Opd.get_eq (fun s hs=>h2 s (by simp [PS.rd,hs]))
      have gs:e2 s=e s:=h2 s (by simp [PS.rd])
      have gh:e2 h=e h:=h2 h (by simp [PS.rd])
      simp only [cG,pstep] at hp
      simp only [pstep,hx,gs,gh]
      clear h2
      revert hp
      first
        | ((repeat' split)<;>intro hp<;>first
            | (cases hp;done)
            | (simp only [Option.some.injEq] at hp
               exact ⟨_,hp.symm,rfl⟩))
        | (intro hp
           (repeat' (split at hp))<;>first
            | (cases hp;done)
            | (simp only [Option.some.injEq] at hp
               refine ⟨_,hp.symm,?_⟩
               simp [*]))
    obtain ⟨vv,hc,_⟩:=key e (fun _ _=>rfl)
    refine cJ (d:=h) (c:=vv) (by simp [PS.wr]) hc (fun e2 h2=>?_)
    obtain ⟨c2,hc2,hp2⟩:=key e2 h2
    have:vv=c2:=by
      have:=congrFun (hc.symm.trans hc2) h
      rwa [aI,aI] at this
    rw [this]
    exact hp2
  | .bxp d i len,e,e',hp=>by
    have key:∀ e2:Env,(∀ t∈(PS.bxp d i len).rd,e2 t=e t)→∃ vv,e'=put e d vv∧pstep (.bxp d i len) e2=some (put e2 d vv):=by
      intro e2 h2
      have hi:Opd.get e2 i=Opd.get e i:=Opd.get_eq (fun s hs=>h2 s (by simp [PS.rd,hs]))
      simp only [cG,pstep] at hp
      simp only [pstep,hi]
      clear h2
      revert hp
      first
        | ((repeat' split)<;>intro hp<;>first
            | (cases hp;done)
            | (simp only [Option.some.injEq] at hp
               exact ⟨_,hp.symm,rfl⟩))
        | (intro hp
           (repeat' (split at hp))<;>first
            | (cases hp;done)
            | (simp only [Option.some.injEq] at hp
               refine ⟨_,hp.symm,?_⟩
               simp [*]))
    obtain ⟨vv,hc,_⟩:=key e (fun _ _=>rfl)
    refine cJ (d:=d) (c:=vv) (by simp [PS.wr]) hc (fun e2 h2=>?_)
    obtain ⟨c2,hc2,hp2⟩:=key e2 h2
    have:vv=c2:=by
      have:=congrFun (hc.symm.trans hc2) d
      rwa [aI,aI] at this
    rw [this]
    exact hp2
  | .bxl d s b es off n,e,e',hp=>by
    have key:∀ e2:Env,(∀ t∈(PS.bxl d s b es off n).rd,e2 t=e t)→∃ vv,e'=put e d vv∧pstep (.bxl d s b es off n) e2=some (put e2 d vv):=by
      intro e2 h2
      have gs:e2 s=e s:=h2 s (by simp [PS.rd])
      have gb:e2 b=e b:=h2 b (by simp [PS.rd])
      simp only [cG,pstep] at hp
      simp only [pstep,gs,gb]
      clear h2
      revert hp
      first
        | ((repeat' split)<;>intro hp<;>first
            | (cases hp;done)
            | (simp only [Option.some.injEq] at hp
               exact ⟨_,hp.symm,rfl⟩))
        | (intro hp
           (repeat' (split at hp))<;>first
            | (cases hp;done)
            | (simp only [Option.some.injEq] at hp
               refine ⟨_,hp.symm,?_⟩
               simp [*]))
    obtain ⟨vv,hc,_⟩:=key e (fun _ _=>rfl)
    refine cJ (d:=d) (c:=vv) (by simp [PS.wr]) hc (fun e2 h2=>?_)
    obtain ⟨c2,hc2,hp2⟩:=key e2 h2
    have:vv=c2:=by
      have:=congrFun (hc.symm.trans hc2) d
      rwa [aI,aI] at this
    rw [this]
    exact hp2
  | .bxs s b es off x,e,e',hp=>by
    have key:∀ e2:Env,(∀ t∈(PS.bxs s b es off x).rd,e2 t=e t)→∃ vv,e'=put e b vv∧pstep (.bxs s b es off x) e2=some (put e2 b vv):=by
      intro e2 h2
      have hx:Opd.get e2 x=Opd.get e x:=Opd.get_eq (fun s hs=>h2 s (by simp [PS.rd,hs]))
      have gs:e2 s=e s:=h2 s (by simp [PS.rd])
      have gb:e2 b=e b:=h2 b (by simp [PS.rd])
      simp only [cG,pstep] at hp
      simp only [pstep,hx,gs,gb]
      clear h2
      revert hp
      first
        | ((repeat' split)<;>intro hp<;>first
            | (cases hp;done)
            | (simp only [Option.some.injEq] at hp
               exact ⟨_,hp.symm,rfl⟩))
        | (intro hp
           (repeat' (split at hp))<;>first
            | (cases hp;done)
            | (simp only [Option.some.injEq] at hp
               refine ⟨_,hp.symm,?_⟩
               simp [*]))
    obtain ⟨vv,hc,_⟩:=key e (fun _ _=>rfl)
    refine cJ (d:=b) (c:=vv) (by simp [PS.wr]) hc (fun e2 h2=>?_)
    obtain ⟨c2,hc2,hp2⟩:=key e2 h2
    have:vv=c2:=by
      have:=congrFun (hc.symm.trans hc2) b
      rwa [aI,aI] at this
    rw [this]
    exact hp2
  | .len d x,e,e',hp=>by
    have key:∀ e2:Env,(∀ t∈(PS.len d x).rd,e2 t=e t)→∃ vv,e'=put e d vv∧pstep (.len d x) e2=some (put e2 d vv):=by
      intro e2 h2
      have hx:Opd.get e2 x=Opd.get e x:=Opd.get_eq (fun s hs=>h2 s (by simp [PS.rd,hs]))
      simp only [cG,pstep] at hp
      simp only [pstep,hx]
      clear h2
      revert hp
      first
        | ((repeat' split)<;>intro hp<;>first
            | (cases hp;done)
            | (simp only [Option.some.injEq] at hp
               exact ⟨_,hp.symm,rfl⟩))
        | (intro hp
           (repeat' (split at hp))<;>first
            | (cases hp;done)
            | (simp only [Option.some.injEq] at hp
               refine ⟨_,hp.symm,?_⟩
               simp [*]))
    obtain ⟨vv,hc,_⟩:=key e (fun _ _=>rfl)
    refine cJ (d:=d) (c:=vv) (by simp [PS.wr]) hc (fun e2 h2=>?_)
    obtain ⟨c2,hc2,hp2⟩:=key e2 h2
    have:vv=c2:=by
      have:=congrFun (hc.symm.trans hc2) d
      rwa [aI,aI] at this
    rw [this]
    exact hp2
  | .slen d x,e,e',hp=>by
    have key:∀ e2:Env,(∀ t∈(PS.slen d x).rd,e2 t=e t)→∃ vv,e'=put e d vv∧pstep (.slen d x) e2=some (put e2 d vv):=by
      intro e2 h2
      have hx:Opd.get e2 x=Opd.get e x:=Opd.get_eq (fun s hs=>h2 s (by simp [PS.rd,hs]))
      simp only [cG,pstep] at hp
      simp only [pstep,hx]
      clear h2
      revert hp
      first
        | ((repeat' split)<;>intro hp<;>first
            | (cases hp;done)
            | (simp only [Option.some.injEq] at hp
               exact ⟨_,hp.symm,rfl⟩))
        | (intro hp
           (repeat' (split at hp))<;>first
            | (cases hp;done)
            | (simp only [Option.some.injEq] at hp
               refine ⟨_,hp.symm,?_⟩
               simp [*]))
    obtain ⟨vv,hc,_⟩:=key e (fun _ _=>rfl)
    refine cJ (d:=d) (c:=vv) (by simp [PS.wr]) hc (fun e2 h2=>?_)
    obtain ⟨c2,hc2,hp2⟩:=key e2 h2
    have:vv=c2:=by
      have:=congrFun (hc.symm.trans hc2) d
      rwa [aI,aI] at this
    rw [this]
    exact hp2
  | .sidx d x i,e,e',hp=>by
    have key:∀ e2:Env,(∀ t∈(PS.sidx d x i).rd,e2 t=e t)→∃ vv,e'=put e d vv∧pstep (.sidx d x i) e2=some (put e2 d vv):=by
      intro e2 h2
      have hx:Opd.get e2 x=Opd.get e x:=Opd.get_eq (fun s hs=>h2 s (by simp [PS.rd,hs]))
      have hi:Opd.get e2 i=Opd.get e i:=Opd.get_eq (fun s hs=>h2 s (by simp [PS.rd,hs]))
      simp only [cG,pstep] at hp
      simp only [pstep,hx,hi]
      clear h2
      revert hp
      first
        | ((repeat' split)<;>intro hp<;>first
            | (cases hp;done)
            | (simp only [Option.some.injEq] at hp
               exact ⟨_,hp.symm,rfl⟩))
        | (intro hp
           (repeat' (split at hp))<;>first
            | (cases hp;done)
            | (simp only [Option.some.injEq] at hp
               refine ⟨_,hp.symm,?_⟩
               simp [*]))
    obtain ⟨vv,hc,_⟩:=key e (fun _ _=>rfl)
    refine cJ (d:=d) (c:=vv) (by simp [PS.wr]) hc (fun e2 h2=>?_)
    obtain ⟨c2,hc2,hp2⟩:=key e2 h2
    have:vv=c2:=by
      have:=congrFun (hc.symm.trans hc2) d
      rwa [aI,aI] at this
    rw [this]
    exact hp2
  | .ssl d x lo hi,e,e',hp=>by
    have key:∀ e2:Env,(∀ t∈(PS.ssl d x lo hi).rd,e2 t=e t)→∃ vv,e'=put e d vv∧pstep (.ssl d x lo hi) e2=some (put e2 d vv):=by
      intro e2 h2
      have hx:Opd.get e2 x=Opd.get e x:=Opd.get_eq (fun s hs=>h2 s (by simp [PS.rd,hs]))
      have ilo:∀ n,EM e2 lo n=EM e lo n:=fun n=>Hs (fun s hs=>h2 s (by simp [PS.rd,hs]))
      have ihi:∀ n,EM e2 hi n=EM e hi n:=fun n=>Hs (fun s hs=>h2 s (by simp [PS.rd,hs]))
      simp only [cG,pstep] at hp
      simp only [pstep,hx,ilo,ihi]
      clear h2
      revert hp
      first
        | ((repeat' split)<;>intro hp<;>first
            | (cases hp;done)
            | (simp only [Option.some.injEq] at hp
               exact ⟨_,hp.symm,rfl⟩))
        | (intro hp
           (repeat' (split at hp))<;>first
            | (cases hp;done)
            | (simp only [Option.some.injEq] at hp
               refine ⟨_,hp.symm,?_⟩
               simp [*]))
    obtain ⟨vv,hc,_⟩:=key e (fun _ _=>rfl)
    refine cJ (d:=d) (c:=vv) (by simp [PS.wr]) hc (fun e2 h2=>?_)
    obtain ⟨c2,hc2,hp2⟩:=key e2 h2
    have:vv=c2:=by
      have:=congrFun (hc.symm.trans hc2) d
      rwa [aI,aI] at this
    rw [this]
    exact hp2
  | .lsl d sz x lo hi mx,e,e',hp=>by
    have key:∀ e2:Env,(∀ t∈(PS.lsl d sz x lo hi mx).rd,e2 t=e t)→∃ vv,e'=put e d vv∧pstep (.lsl d sz x lo hi mx) e2=some (put e2 d vv):=by
      intro e2 h2
      have hx:Opd.get e2 x=Opd.get e x:=Opd.get_eq (fun s hs=>h2 s (by simp [PS.rd,hs]))
      have ilo:∀ n,EM e2 lo n=EM e lo n:=fun n=>Hs (fun s hs=>h2 s (by simp [PS.rd,hs]))
      have ihi:∀ n,EM e2 hi n=EM e hi n:=fun n=>Hs (fun s hs=>h2 s (by simp [PS.rd,hs]))
      have imx:∀ n,EM e2 mx n=EM e mx n:=fun n=>Hs (fun s hs=>h2 s (by simp [PS.rd,hs]))
      simp only [cG,pstep] at hp
      simp only [pstep,hx,ilo,ihi,imx]
      clear h2
      revert hp
      first
        | ((repeat' split)<;>intro hp<;>first
            | (cases hp;done)
            | (simp only [Option.some.injEq] at hp
               exact ⟨_,hp.symm,rfl⟩))
        | (intro hp
           (repeat' (split at hp))<;>first
            | (cases hp;done)
            | (simp only [Option.some.injEq] at hp
               refine ⟨_,hp.symm,?_⟩
               simp [*]))
    obtain ⟨vv,hc,_⟩:=key e (fun _ _=>rfl)
    refine cJ (d:=d) (c:=vv) (by simp [PS.wr]) hc (fun e2 h2=>?_)
    obtain ⟨c2,hc2,hp2⟩:=key e2 h2
    have:vv=c2:=by
      have:=congrFun (hc.symm.trans hc2) d
      rwa [aI,aI] at this
    rw [this]
    exact hp2
  | .app d sz sc x y,e,e',hp=>by
    have key:∀ e2:Env,(∀ t∈(PS.app d sz sc x y).rd,e2 t=e t)→∃ vv,e'=put e d vv∧pstep (.app d sz sc x y) e2=some (put e2 d vv):=by
      intro e2 h2
      have hx:Opd.get e2 x=Opd.get e x:=Opd.get_eq (fun s hs=>h2 s (by simp [PS.rd,hs]))
      have hy:Opd.get e2 y=Opd.get e y:=Opd.get_eq (fun s hs=>h2 s (by simp [PS.rd,hs]))
      simp only [cG,pstep] at hp
      simp only [pstep,hx,hy]
      clear h2
      revert hp
      first
        | ((repeat' split)<;>intro hp<;>first
            | (cases hp;done)
            | (simp only [Option.some.injEq] at hp
               exact ⟨_,hp.symm,rfl⟩))
        | (intro hp
           (repeat' (split at hp))<;>first
            | (cases hp;done)
            | (simp only [Option.some.injEq] at hp
               refine ⟨_,hp.symm,?_⟩
               simp [*]))
    obtain ⟨vv,hc,_⟩:=key e (fun _ _=>rfl)
    refine cJ (d:=d) (c:=vv) (by simp [PS.wr]) hc (fun e2 h2=>?_)
    obtain ⟨c2,hc2,hp2⟩:=key e2 h2
    have:vv=c2:=by
      have:=congrFun (hc.symm.trans hc2) d
      rwa [aI,aI] at this
    rw [this]
    exact hp2
  | .cvt d k x,e,e',hp=>by
    have key:∀ e2:Env,(∀ t∈(PS.cvt d k x).rd,e2 t=e t)→∃ vv,e'=put e d vv∧pstep (.cvt d k x) e2=some (put e2 d vv):=by
      intro e2 h2
      have hx:Opd.get e2 x=Opd.get e x:=Opd.get_eq (fun s hs=>h2 s (by simp [PS.rd,hs]))
      simp only [cG,pstep] at hp
      simp only [pstep,hx]
      clear h2
      revert hp
      first
        | ((repeat' split)<;>intro hp<;>first
            | (cases hp;done)
            | (simp only [Option.some.injEq] at hp
               exact ⟨_,hp.symm,rfl⟩))
        | (intro hp
           (repeat' (split at hp))<;>first
            | (cases hp;done)
            | (simp only [Option.some.injEq] at hp
               refine ⟨_,hp.symm,?_⟩
               simp [*]))
    obtain ⟨vv,hc,_⟩:=key e (fun _ _=>rfl)
    refine cJ (d:=d) (c:=vv) (by simp [PS.wr]) hc (fun e2 h2=>?_)
    obtain ⟨c2,hc2,hp2⟩:=key e2 h2
    have:vv=c2:=by
      have:=congrFun (hc.symm.trans hc2) d
      rwa [aI,aI] at this
    rw [this]
    exact hp2
  | .s2b d x,e,e',hp=>by
    have key:∀ e2:Env,(∀ t∈(PS.s2b d x).rd,e2 t=e t)→∃ vv,e'=put e d vv∧pstep (.s2b d x) e2=some (put e2 d vv):=by
      intro e2 h2
      have hx:Opd.get e2 x=Opd.get e x:=Opd.get_eq (fun s hs=>h2 s (by simp [PS.rd,hs]))
      simp only [cG,pstep] at hp
      simp only [pstep,hx]
      clear h2
      revert hp
      first
        | ((repeat' split)<;>intro hp<;>first
            | (cases hp;done)
            | (simp only [Option.some.injEq] at hp
               exact ⟨_,hp.symm,rfl⟩))
        | (intro hp
           (repeat' (split at hp))<;>first
            | (cases hp;done)
            | (simp only [Option.some.injEq] at hp
               refine ⟨_,hp.symm,?_⟩
               simp [*]))
    obtain ⟨vv,hc,_⟩:=key e (fun _ _=>rfl)
    refine cJ (d:=d) (c:=vv) (by simp [PS.wr]) hc (fun e2 h2=>?_)
    obtain ⟨c2,hc2,hp2⟩:=key e2 h2
    have:vv=c2:=by
      have:=congrFun (hc.symm.trans hc2) d
      rwa [aI,aI] at this
    rw [this]
    exact hp2
  | .b2s d x,e,e',hp=>by
    have key:∀ e2:Env,(∀ t∈(PS.b2s d x).rd,e2 t=e t)→∃ vv,e'=put e d vv∧pstep (.b2s d x) e2=some (put e2 d vv):=by
      intro e2 h2
      have hx:Opd.get e2 x=Opd.get e x:=Opd.get_eq (fun s hs=>h2 s (by simp [PS.rd,hs]))
      simp only [cG,pstep] at hp
      simp only [pstep,hx]
      clear h2
      revert hp
      first
        | ((repeat' split)<;>intro hp<;>first
            | (cases hp;done)
            | (simp only [Option.some.injEq] at hp
               exact ⟨_,hp.symm,rfl⟩))
        | (intro hp
           (repeat' (split at hp))<;>first
            | (cases hp;done)
            | (simp only [Option.some.injEq] at hp
               refine ⟨_,hp.symm,?_⟩
               simp [*]))
    obtain ⟨vv,hc,_⟩:=key e (fun _ _=>rfl)
    refine cJ (d:=d) (c:=vv) (by simp [PS.wr]) hc (fun e2 h2=>?_)
    obtain ⟨c2,hc2,hp2⟩:=key e2 h2
    have:vv=c2:=by
      have:=congrFun (hc.symm.trans hc2) d
      rwa [aI,aI] at this
    rw [this]
    exact hp2
  | .ext d s off n,e,e',hp=>by
    have key:∀ e2:Env,(∀ t∈(PS.ext d s off n).rd,e2 t=e t)→∃ vv,e'=put e d vv∧pstep (.ext d s off n) e2=some (put e2 d vv):=by
      intro e2 h2
      have gs:e2 s=e s:=h2 s (by simp [PS.rd])
      simp only [cG,pstep] at hp
      simp only [pstep,gs]
      clear h2
      revert hp
      first
        | ((repeat' split)<;>intro hp<;>first
            | (cases hp;done)
            | (simp only [Option.some.injEq] at hp
               exact ⟨_,hp.symm,rfl⟩))
        | (intro hp
           (repeat' (split at hp))<;>first
            | (cases hp;done)
            | (simp only [Option.some.injEq] at hp
               refine ⟨_,hp.symm,?_⟩
               simp [*]))
    obtain ⟨vv,hc,_⟩:=key e (fun _ _=>rfl)
    refine cJ (d:=d) (c:=vv) (by simp [PS.wr]) hc (fun e2 h2=>?_)
    obtain ⟨c2,hc2,hp2⟩:=key e2 h2
    have:vv=c2:=by
      have:=congrFun (hc.symm.trans hc2) d
      rwa [aI,aI] at this
    rw [this]
    exact hp2
  | .min d x y,e,e',hp=>by
    have key:∀ e2:Env,(∀ t∈(PS.min d x y).rd,e2 t=e t)→∃ vv,e'=put e d vv∧pstep (.min d x y) e2=some (put e2 d vv):=by
      intro e2 h2
      have hx:Opd.get e2 x=Opd.get e x:=Opd.get_eq (fun s hs=>h2 s (by simp [PS.rd,hs]))
      have hy:Opd.get e2 y=Opd.get e y:=Opd.get_eq (fun s hs=>h2 s (by simp [PS.rd,hs]))
      simp only [cG,pstep] at hp
      simp only [pstep,hx,hy]
      clear h2
      revert hp
      first
        | ((repeat' split)<;>intro hp<;>first
            | (cases hp;done)
            | (simp only [Option.some.injEq] at hp
               exact ⟨_,hp.symm,rfl⟩))
        | (intro hp
           (repeat' (split at hp))<;>first
            | (cases hp;done)
            | (simp only [Option.some.injEq] at hp
               refine ⟨_,hp.symm,?_⟩
               simp [*]))
    obtain ⟨vv,hc,_⟩:=key e (fun _ _=>rfl)
    refine cJ (d:=d) (c:=vv) (by simp [PS.wr]) hc (fun e2 h2=>?_)
    obtain ⟨c2,hc2,hp2⟩:=key e2 h2
    have:vv=c2:=by
      have:=congrFun (hc.symm.trans hc2) d
      rwa [aI,aI] at this
    rw [this]
    exact hp2
  | .i2s d x,e,e',hp=>by
    have key:∀ e2:Env,(∀ t∈(PS.i2s d x).rd,e2 t=e t)→∃ vv,e'=put e d vv∧pstep (.i2s d x) e2=some (put e2 d vv):=by
      intro e2 h2
      have hx:Opd.get e2 x=Opd.get e x:=Opd.get_eq (fun s hs=>h2 s (by simp [PS.rd,hs]))
      simp only [cG,pstep] at hp
      simp only [pstep,hx]
      clear h2
      revert hp
      first
        | ((repeat' split)<;>intro hp<;>first
            | (cases hp;done)
            | (simp only [Option.some.injEq] at hp
               exact ⟨_,hp.symm,rfl⟩))
        | (intro hp
           (repeat' (split at hp))<;>first
            | (cases hp;done)
            | (simp only [Option.some.injEq] at hp
               refine ⟨_,hp.symm,?_⟩
               simp [*]))
    obtain ⟨vv,hc,_⟩:=key e (fun _ _=>rfl)
    refine cJ (d:=d) (c:=vv) (by simp [PS.wr]) hc (fun e2 h2=>?_)
    obtain ⟨c2,hc2,hp2⟩:=key e2 h2
    have:vv=c2:=by
      have:=congrFun (hc.symm.trans hc2) d
      rwa [aI,aI] at this
    rw [this]
    exact hp2
  | .fn d g fs cs,e,e',hp=>by
    simp only [cG,pstep,Option.some.injEq] at hp
    refine cJ (d:=d) (c:=[.fn g (fs.map fun p=>(p.1,p.2.get e)) (cs.map e)]) (by simp [PS.wr]) hp.symm (fun e2 h2=>?_)
    have h1:=XO (l:=fs) (fun s hs=>h2 s (by simp [PS.rd,hs]))
    have h3:cs.map e2=cs.map e:=List.map_congr_left (fun s hs=>h2 s (by simp [PS.rd,hs]))
    simp only [cG,pstep,h1,h3]
  | .callc d s f sig args,e,e',hp=>by
    simp only [cG] at hp
    obtain ⟨fs,cs,rs,h1,h2,h3,h4,h5,h6,h7,h8⟩:=hp
    refine cJ (d:=d) (c:=rs.flatten) (by simp [PS.wr]) h8 (fun e2 he=>?_)
    have h9:=QS (l:=args) (fun s hs=>he s (by simp [PS.rd,hs]))
    exact ⟨fs,cs,rs,(he s (by simp [PS.rd])).trans h1,h2,h3,h4,h5,by rw [h9];exact h6,h7,rfl⟩
  | .call d f sig args bs,e,e',hp=>by
    simp only [cG] at hp
    obtain ⟨rs,xs,h1,h2,h3,h4⟩:=hp
    have hpl:∀ (bs:List Nat) (xs:List (List D)) (e:Env),xs.length=bs.length→iZ e bs xs=zG e (bs.zip xs):=by
      intro bs
      induction bs with
      | nil=>intro xs e _;cases xs<;>rfl
      | cons b bs ih=>
        intro xs e hl
        cases xs with
        | nil=>simp at hl
        | cons x xs=>simp only [iZ,List.zip_cons_cons,zG];exact ih xs _ (by simpa using hl)
    have happ:∀ (l:List (Nat×List D)) (e:Env) (d:Nat) (c:List D),put (zG e l) d c=zG e (l++[(d,c)]):=by
      intro l
      induction l with
      | nil=>intro e d c;rfl
      | cons q l ih=>intro e d c;obtain ⟨a,b⟩:=q;simp only [zG,List.cons_append];exact ih _ _ _
    refine ⟨bs.zip xs++[(d,rs.flatten)],fun x hx=>?_,by rw [h4,hpl bs xs e h3,happ],fun e2 he=>?_⟩
    · simp only [List.map_append,List.mem_append,List.map_cons,List.map_nil,List.mem_singleton] at hx
      rcases hx with hx | hx
      · obtain ⟨q,hq,rfl⟩:=List.mem_map.1 hx
        exact List.mem_cons_of_mem _ (List.of_mem_zip hq).1
      · rw [hx];exact List.mem_cons_self ..
    · have h9:=QS (l:=args) (fun s hs=>he s (by simp [PS.rd,hs]))
      exact ⟨rs,xs,by rw [h9];exact h1,h2,h3,by rw [hpl bs xs e2 h3,happ]⟩
  | .ioc d f sig x y h i none,e,e',hp=>by
    simp only [cG] at hp
    obtain ⟨r,c,h1,h2,h3,h4⟩:=hp
    refine ⟨[(h,cA (e h) i c),(d,r)],fun z hz=>?_,h4,fun e2 he=>?_⟩
    · simp only [List.map_cons,List.map_nil,List.mem_cons,List.not_mem_nil,or_false] at hz
      rcases hz with hz | hz<;>simp [PS.wr,hz]
    · have e1:x.get e2=x.get e:=Opd.get_eq (fun s hs=>he s (by simp [PS.rd,hs]))
      have e3:y.get e2=y.get e:=Opd.get_eq (fun s hs=>he s (by simp [PS.rd,hs]))
      have e4:e2 h=e h:=he h (by simp [PS.rd])
      simp only [cG]
      exact ⟨r,c,by rw [e1,e4];exact h1,by rw [e1,e3];exact h2,by rw [e1];exact h3,by rw [e4];rfl⟩
  | .ioc d f sig x y h i (some (p,off)),e,e',hp=>by
    simp only [cG] at hp
    obtain ⟨xs,k,n,ys,a,b,dd,r,dd',h1,h2,h3,h4,h5,h6,h7,h8⟩:=hp
    refine ⟨[(h,(e h).set i (.sl (ys.set n.toNat (b.set off dd')))),(d,r)],fun z hz=>?_,h8,fun e2 he=>?_⟩
    · simp only [List.map_cons,List.map_nil,List.mem_cons,List.not_mem_nil,or_false] at hz
      rcases hz with hz | hz<;>simp [PS.wr,hz]
    · have e3:y.get e2=y.get e:=Opd.get_eq (fun s hs=>he s (by simp [PS.rd,hs]))
      have e4:e2 h=e h:=he h (by simp [PS.rd])
      have e5:e2 p=e p:=he p (by simp [PS.rd])
      simp only [cG]
      exact ⟨xs,k,n,ys,a,b,dd,r,dd',by rw [e5];exact h1,by rw [e4];exact h2,h3,h4,h5,h6,by rw [e3];exact h7,by rw [e4];rfl⟩
  | .g s b d p,e,e',hp=>by
    simp only [cG] at hp
    rcases hp with ⟨h1,h2⟩ | ⟨h1,h2⟩
    · obtain ⟨l,k1,k2,k3⟩:=Lu h2
      exact ⟨l,fun x hx=>List.mem_cons_of_mem _ (k1 x hx),k2,fun e2 he=> .inl ⟨(he s (by simp [PS.rd])).trans h1,k3 e2 (fun t ht=>he t (by simp [PS.rd,ht]))⟩⟩
    · refine cJ (d:=d) (c:=[]) (by simp [PS.wr]) h2 (fun e2 he=> .inr ⟨?_,rfl⟩)
      rw [he s (by simp [PS.rd])]
      exact h1

theorem QT {Φ:Ask}{p q:PS}{e e1 e2:Env}(h:Sx p q=true)(hp:cG Φ p e e1)(hq:cG Φ q e1 e2):∃ e1',cG Φ q e e1'∧cG Φ p e1' e2:=by
  unfold Sx at h
  simp only [Bool.and_eq_true,HP] at h
  obtain ⟨⟨h1,h2⟩,h3⟩:=h
  obtain ⟨l,a1,rfl,a3⟩:=Lu hp
  obtain ⟨m,b1,rfl,b3⟩:=Lu hq
  refine ⟨zG e m,b3 e (fun s hs=>?_),?_⟩
  · rw [pP (fun hm=>h1 s (a1 s hm) hs)]
  · rw [Ub (fun x hx hm=>h2 x (a1 x hx) (b1 x hm))]
    exact a3 _ (fun s hs=>pP (fun hm=>h3 s (b1 s hm) hs))

end
section

/-! ### equality by the checker -/

theorem dY {a b:Nat}:Nat.beq a b=true↔a=b:=⟨Nat.eq_of_beq_eq_true,fun h=>by rw [h];exact Nat.beq_refl b⟩

theorem XP {a b:CS}(h:csE a b=true):a=b:=by
 cases a<;>cases b<;>simp_all [csE,bC,pO,dY]

theorem Gu:∀ {a b:List CS},UL a b=true→a=b
 | [],[],_=>rfl
 | [],_::_,h=>by cases h
 | _::_,[],h=>by cases h
 | a::r,b::q,h=>by
  simp only [UL,Bool.and_eq_true] at h
  rw [XP h.1,Gu h.2]

theorem NZ:∀ {a b:List (Bool×List CS)},Sy a b=true→a=b
 | [],[],_=>rfl
 | [],_::_,h=>by cases h
 | _::_,[],h=>by cases h
 | (x,a)::r,(y,b)::q,h=>by
  simp only [Sy,Bool.and_eq_true,bC] at h
  rw [h.1.1,Gu h.1.2,NZ h.2]

theorem Ht:∀ {a b:List Nat},nsE a b=true→a=b
 | [],[],_=>rfl
 | [],_::_,h=>by cases h
 | _::_,[],h=>by cases h
 | a::r,b::q,h=>by
  simp only [nsE,Bool.and_eq_true,dY] at h
  rw [h.1,Ht h.2]

theorem QU:∀ {a b:Sh},Ps a b=true→a=b
 | .opt g x s,b,h=>by
  cases b with
  | opt g' x' s'=>
   simp only [Ps,Bool.and_eq_true,dY,bC] at h
   rw [h.1.1,h.1.2,QU h.2]
  | _=>simp [Ps] at h
 | .dead,b,h=>by cases b<;>simp_all [Ps]
 | .v _ _,b,h=>by
  cases b<;>simp [Ps,bC] at h
  rw [h.1,Gu h.2]
 | .box _ _,b,h=>by
  cases b<;>simp [Ps,bC] at h
  rw [h.1,Gu h.2]
 | .pt _ _,b,h=>by cases b<;>simp_all [Ps,dY]
 | .ld _ _ _,b,h=>by
  cases b<;>simp [Ps,dY] at h
  rw [h.1.1,h.1.2,h.2]
 | .el _ _,b,h=>by
  cases b<;>simp [Ps,dY] at h
  rw [XP h.1,h.2]
 | .bx _ _ _,b,h=>by cases b<;>simp_all [Ps,dY]
 | .clo _ _,b,h=>by
  cases b<;>simp [Ps,dY] at h
  rw [h.1,Ht h.2]
 | .tup _,b,h=>by
  cases b<;>simp [Ps] at h
  rw [NZ h]

theorem aB6 {a b:IntKind}(h:kE a b=true):a=b:=by cases a<;>cases b<;>first | rfl | cases h

theorem aB7:∀ {a b:D},dE a b=true→a=b:=by
 intro a b h
 unfold dE at h
 split at h
 ·simp only [Bool.and_eq_true,decide_eq_true_eq] at h
  rw [aB6 h.1,h.2]
 ·rw [bC.1 h]
 ·rw [of_decide_eq_true h]
 ·rfl
 ·rfl
 ·cases h

theorem EU:∀ {a b:List D},dsE a b=true→a=b
 | [],[],_=>rfl
 | [],_::_,h=>by cases h
 | _::_,[],h=>by cases h
 | a::r,b::q,h=>by
  simp only [dsE,Bool.and_eq_true] at h
  rw [aB7 h.1,EU h.2]

theorem dP {a b:Opd}(h:oE a b=true):a=b:=by
 cases a<;>cases b<;>simp [oE,dY] at h
 ·rw [h]
 ·rw [aB7 h]

theorem Hu {a b:Option Opd}(h:ooE a b=true):a=b:=by
 cases a<;>cases b<;>simp [ooE] at h
 ·rfl
 ·rw [dP h]

theorem QV:∀ {a b:List Opd},osE a b=true→a=b
 | [],[],_=>rfl
 | [],_::_,h=>by cases h
 | _::_,[],h=>by cases h
 | a::r,b::q,h=>by
  simp only [osE,Bool.and_eq_true] at h
  rw [dP h.1,QV h.2]

theorem Lv:∀ {a b:List (Nat×Opd)},WR a b=true→a=b
 | [],[],_=>rfl
 | [],_::_,h=>by cases h
 | _::_,[],h=>by cases h
 | (x,a)::r,(y,b)::q,h=>by
  simp only [WR,Bool.and_eq_true,dY] at h
  rw [h.1.1,dP h.1.2,Lv h.2]

theorem XQ:∀ {a b:List (Bool×Opd)},obE a b=true→a=b
 | [],[],_=>rfl
 | [],_::_,h=>by cases h
 | _::_,[],h=>by cases h
 | (x,a)::r,(y,b)::q,h=>by
  simp only [obE,Bool.and_eq_true,bC] at h
  rw [h.1.1,dP h.1.2,XQ h.2]

theorem XR:∀ {p q:PS},iS p q=true→p=q
 | .g s b d p,q,h=>by
  cases q with
  | g s' b' d' p'=>
   simp only [iS,Bool.and_eq_true,dY,bC] at h
   obtain ⟨⟨⟨rfl,rfl⟩,rfl⟩,h⟩:=h
   rw [XR h]
  | _=>simp [iS] at h
 | .nop,q,h=>by
  cases q with
  | nop=>
   rfl
  | _=>simp [iS] at h
 | .mv _ _,q,h=>by
  cases q with
  | mv _ _=>
   simp only [iS,Bool.and_eq_true,dY,bC,decide_eq_true_eq] at h
   obtain ⟨h0,h1⟩:=h
   rw [h0,dP h1]
  | _=>simp [iS] at h
 | .sub _ _ _ _,q,h=>by
  cases q with
  | sub _ _ _ _=>
   simp only [iS,Bool.and_eq_true,dY,bC,decide_eq_true_eq] at h
   obtain ⟨⟨⟨h0,h1⟩,h2⟩,h3⟩:=h
   rw [h0,h1,h2,h3]
  | _=>simp [iS] at h
 | .bld _ _ _,q,h=>by
  cases q with
  | bld _ _ _=>
   simp only [iS,Bool.and_eq_true,dY,bC,decide_eq_true_eq] at h
   obtain ⟨⟨h0,h1⟩,h2⟩:=h
   rw [h0,EU h1,Lv h2]
  | _=>simp [iS] at h
 | .lit _ _ _ _,q,h=>by
  cases q with
  | lit _ _ _ _=>
   simp only [iS,Bool.and_eq_true,dY,bC,decide_eq_true_eq] at h
   obtain ⟨⟨⟨h0,h1⟩,h2⟩,h3⟩:=h
   rw [h0,h1,EU h2,Lv h3]
  | _=>simp [iS] at h
 | .mk _ _ _ _,q,h=>by
  cases q with
  | mk _ _ _ _=>
   simp only [iS,Bool.and_eq_true,dY,bC,decide_eq_true_eq] at h
   obtain ⟨⟨⟨h0,h1⟩,h2⟩,h3⟩:=h
   rw [h0,EU h1,dP h2,dP h3]
  | _=>simp [iS] at h
 | .st _ _ _,q,h=>by
  cases q with
  | st _ _ _=>
   simp only [iS,Bool.and_eq_true,dY,bC,decide_eq_true_eq] at h
   obtain ⟨⟨h0,h1⟩,h2⟩:=h
   rw [h0,h1,dP h2]
  | _=>simp [iS] at h
 | .bin _ _ _ _,q,h=>by
  cases q with
  | bin _ _ _ _=>
   simp only [iS,Bool.and_eq_true,dY,bC,decide_eq_true_eq] at h
   obtain ⟨⟨⟨h0,h1⟩,h2⟩,h3⟩:=h
   rw [h0,h1,dP h2,dP h3]
  | _=>simp [iS] at h
 | .un _ _ _,q,h=>by
  cases q with
  | un _ _ _=>
   simp only [iS,Bool.and_eq_true,dY,bC,decide_eq_true_eq] at h
   obtain ⟨⟨h0,h1⟩,h2⟩:=h
   rw [h0,h1,dP h2]
  | _=>simp [iS] at h
 | .beq _ _ _ _,q,h=>by
  cases q with
  | beq _ _ _ _=>
   simp only [iS,Bool.and_eq_true,dY,bC,decide_eq_true_eq] at h
   obtain ⟨⟨⟨h0,h1⟩,h2⟩,h3⟩:=h
   rw [h0,h1,dP h2,dP h3]
  | _=>simp [iS] at h
 | .eqs _ _ _ _ _,q,h=>by
  cases q with
  | eqs _ _ _ _ _=>
   simp only [iS,Bool.and_eq_true,dY,bC,decide_eq_true_eq] at h
   obtain ⟨⟨⟨⟨h0,h1⟩,h2⟩,h3⟩,h4⟩:=h
   rw [h0,h1,EU h2,dP h3,dP h4]
  | _=>simp [iS] at h
 | .pick _ _ _ _,q,h=>by
  cases q with
  | pick _ _ _ _=>
   simp only [iS,Bool.and_eq_true,dY,bC,decide_eq_true_eq] at h
   obtain ⟨⟨⟨h0,h1⟩,h2⟩,h3⟩:=h
   rw [h0,dP h1,dP h2,dP h3]
  | _=>simp [iS] at h
 | .elp _ _ _ _,q,h=>by
  cases q with
  | elp _ _ _ _=>
   simp only [iS,Bool.and_eq_true,dY,bC,decide_eq_true_eq] at h
   obtain ⟨⟨⟨h0,h1⟩,h2⟩,h3⟩:=h
   rw [h0,dP h1,dP h2,h3]
  | _=>simp [iS] at h
 | .eld _ _ _ _,q,h=>by
  cases q with
  | eld _ _ _ _=>
   simp only [iS,Bool.and_eq_true,dY,bC,decide_eq_true_eq] at h
   obtain ⟨⟨⟨h0,h1⟩,h2⟩,h3⟩:=h
   rw [h0,h1,h2,EU h3]
  | _=>simp [iS] at h
 | .els _ _ _ _ _,q,h=>by
  cases q with
  | els _ _ _ _ _=>
   simp only [iS,Bool.and_eq_true,dY,bC,decide_eq_true_eq] at h
   obtain ⟨⟨⟨⟨h0,h1⟩,h2⟩,h3⟩,h4⟩:=h
   rw [h0,h1,h2,h3,dP h4]
  | _=>simp [iS] at h
 | .bxp _ _ _,q,h=>by
  cases q with
  | bxp _ _ _=>
   simp only [iS,Bool.and_eq_true,dY,bC,decide_eq_true_eq] at h
   obtain ⟨⟨h0,h1⟩,h2⟩:=h
   rw [h0,dP h1,h2]
  | _=>simp [iS] at h
 | .bxl _ _ _ _ _ _,q,h=>by
  cases q with
  | bxl _ _ _ _ _ _=>
   simp only [iS,Bool.and_eq_true,dY,bC,decide_eq_true_eq] at h
   obtain ⟨⟨⟨⟨⟨h0,h1⟩,h2⟩,h3⟩,h4⟩,h5⟩:=h
   rw [h0,h1,h2,h3,h4,h5]
  | _=>simp [iS] at h
 | .bxs _ _ _ _ _,q,h=>by
  cases q with
  | bxs _ _ _ _ _=>
   simp only [iS,Bool.and_eq_true,dY,bC,decide_eq_true_eq] at h
   obtain ⟨⟨⟨⟨h0,h1⟩,h2⟩,h3⟩,h4⟩:=h
   rw [h0,h1,h2,h3,dP h4]
  | _=>simp [iS] at h
 | .len _ _,q,h=>by
  cases q with
  | len _ _=>
   simp only [iS,Bool.and_eq_true,dY,bC,decide_eq_true_eq] at h
   obtain ⟨h0,h1⟩:=h
   rw [h0,dP h1]
  | _=>simp [iS] at h
 | .slen _ _,q,h=>by
  cases q with
  | slen _ _=>
   simp only [iS,Bool.and_eq_true,dY,bC,decide_eq_true_eq] at h
   obtain ⟨h0,h1⟩:=h
   rw [h0,dP h1]
  | _=>simp [iS] at h
 | .sidx _ _ _,q,h=>by
  cases q with
  | sidx _ _ _=>
   simp only [iS,Bool.and_eq_true,dY,bC,decide_eq_true_eq] at h
   obtain ⟨⟨h0,h1⟩,h2⟩:=h
   rw [h0,dP h1,dP h2]
  | _=>simp [iS] at h
 | .ssl _ _ _ _,q,h=>by
  cases q with
  | ssl _ _ _ _=>
   simp only [iS,Bool.and_eq_true,dY,bC,decide_eq_true_eq] at h
   obtain ⟨⟨⟨h0,h1⟩,h2⟩,h3⟩:=h
   rw [h0,dP h1,Hu h2,Hu h3]
  | _=>simp [iS] at h
 | .lsl _ _ _ _ _ _,q,h=>by
  cases q with
  | lsl _ _ _ _ _ _=>
   simp only [iS,Bool.and_eq_true,dY,bC,decide_eq_true_eq] at h
   obtain ⟨⟨⟨⟨⟨h0,h1⟩,h2⟩,h3⟩,h4⟩,h5⟩:=h
   rw [h0,h1,dP h2,Hu h3,Hu h4,Hu h5]
  | _=>simp [iS] at h
 | .app _ _ _ _ _,q,h=>by
  cases q with
  | app _ _ _ _ _=>
   simp only [iS,Bool.and_eq_true,dY,bC,decide_eq_true_eq] at h
   obtain ⟨⟨⟨⟨h0,h1⟩,h2⟩,h3⟩,h4⟩:=h
   rw [h0,h1,h2,dP h3,dP h4]
  | _=>simp [iS] at h
 | .cvt _ _ _,q,h=>by
  cases q with
  | cvt _ _ _=>
   simp only [iS,Bool.and_eq_true,dY,bC,decide_eq_true_eq] at h
   obtain ⟨⟨h0,h1⟩,h2⟩:=h
   rw [h0,aB6 h1,dP h2]
  | _=>simp [iS] at h
 | .s2b _ _,q,h=>by
  cases q with
  | s2b _ _=>
   simp only [iS,Bool.and_eq_true,dY,bC,decide_eq_true_eq] at h
   obtain ⟨h0,h1⟩:=h
   rw [h0,dP h1]
  | _=>simp [iS] at h
 | .b2s _ _,q,h=>by
  cases q with
  | b2s _ _=>
   simp only [iS,Bool.and_eq_true,dY,bC,decide_eq_true_eq] at h
   obtain ⟨h0,h1⟩:=h
   rw [h0,dP h1]
  | _=>simp [iS] at h
 | .ext _ _ _ _,q,h=>by
  cases q with
  | ext _ _ _ _=>
   simp only [iS,Bool.and_eq_true,dY,bC,decide_eq_true_eq] at h
   obtain ⟨⟨⟨h0,h1⟩,h2⟩,h3⟩:=h
   rw [h0,h1,h2,h3]
  | _=>simp [iS] at h
 | .min _ _ _,q,h=>by
  cases q with
  | min _ _ _=>
   simp only [iS,Bool.and_eq_true,dY,bC,decide_eq_true_eq] at h
   obtain ⟨⟨h0,h1⟩,h2⟩:=h
   rw [h0,dP h1,dP h2]
  | _=>simp [iS] at h
 | .i2s _ _,q,h=>by
  cases q with
  | i2s _ _=>
   simp only [iS,Bool.and_eq_true,dY,bC,decide_eq_true_eq] at h
   obtain ⟨h0,h1⟩:=h
   rw [h0,dP h1]
  | _=>simp [iS] at h
 | .fn _ _ _ _,q,h=>by
  cases q with
  | fn _ _ _ _=>
   simp only [iS,Bool.and_eq_true,dY,bC,decide_eq_true_eq] at h
   obtain ⟨⟨⟨h0,h1⟩,h2⟩,h3⟩:=h
   rw [h0,h1,XQ h2,Ht h3]
  | _=>simp [iS] at h
 | .callc _ _ _ _ _,q,h=>by
  cases q with
  | callc _ _ _ _ _=>
   simp only [iS,Bool.and_eq_true,dY,bC,decide_eq_true_eq] at h
   obtain ⟨⟨⟨⟨h0,h1⟩,h2⟩,h3⟩,h4⟩:=h
   rw [h0,h1,h2,h3,QV h4]
  | _=>simp [iS] at h
 | .ioc _ _ _ _ _ _ _ none,q,h=>by
  cases q with
  | ioc _ _ _ _ _ _ _ pl=>
   cases pl with
   | none=>
    simp only [iS,Bool.and_eq_true,dY,bC,decide_eq_true_eq] at h
    obtain ⟨⟨⟨⟨⟨⟨h0,h1⟩,h2⟩,h3⟩,h4⟩,h5⟩,h6⟩:=h
    rw [h0,h1,h2,dP h3,dP h4,h5,h6]
   | some _=>simp [iS] at h
  | _=>simp [iS] at h
 | .ioc _ _ _ _ _ _ _ (some (_,_)),q,h=>by
  cases q with
  | ioc _ _ _ _ _ _ _ pl=>
   cases pl with
   | none=>simp [iS] at h
   | some po=>
    obtain ⟨p',o'⟩:=po
    simp only [iS,Bool.and_eq_true,dY,bC,decide_eq_true_eq] at h
    obtain ⟨⟨⟨⟨⟨⟨⟨⟨h0,h1⟩,h2⟩,h3⟩,h4⟩,h5⟩,h6⟩,h7⟩,h8⟩:=h
    rw [h0,h1,h2,dP h3,dP h4,h5,h6,h7,h8]
  | _=>simp [iS] at h
 | .call _ _ _ _ _,q,h=>by
  cases q with
  | call _ _ _ _ _=>
   simp only [iS,Bool.and_eq_true,dY,bC,decide_eq_true_eq] at h
   obtain ⟨⟨⟨⟨h0,h1⟩,h2⟩,h3⟩,h4⟩:=h
   rw [h0,h1,h2,QV h3,Ht h4]
  | _=>simp [iS] at h

theorem Hv {T:St}:∀ {S:St},leT T S=true→∀ {w:World} {cx:Cx} {own:Own} {env:Env} {tv:Nat→Value},Inv T w cx own env tv→Inv S w cx own env tv
 | [],_,_,_,_,_,_,_=>fun p hp=>by simp at hp
 | (z,sh)::r,h,w,cx,own,env,tv,hT=>by
  simp only [leT,Bool.and_eq_true] at h
  intro p hp
  rcases List.mem_cons.1 hp with rfl | hp
  ·have h1:=h.1
   have h2:=hT.look z
   cases sh with
   | dead=>trivial
   | _=>
    dsimp only at h1
    rw [QU h1] at h2
    exact h2
  ·exact Hv h.2 hT p hp

/-! ### what is left of a state -/

def cl (d:Option Nat):St→St
 | []=>[]
 | (z,sh)::r=>match sh with
  | .dead=>cl d r
  | sh=>match (match d with | some d=>Nat.beq z d | none=>false) with
   | true=>cl d r
   | false=>(z,sh)::cl d r

theorem sW {α:Type}(d:Option Nat):∀ (S:St) (k:St→α),UI d S k=k (cl d S)
 | [],k=>rfl
 | (z,sh)::r,k=>by
  cases d with
  | none=>cases sh<;>simp only [UI,cl]<;>first | exact sW none r k | rw [HF,sW none r]
  | some d0=>
   cases hb:Nat.beq z d0<;>cases sh<;>simp only [UI,cl,hb]<;>first | exact sW (some d0) r k | rw [HF,sW (some d0) r]

theorem EV (d:Option Nat):∀ {S:St} {p:Nat×Sh},p∈cl d S→p∈S
 | [],p,h=>h
 | (z,sh)::r,p,h=>by
  cases sh with
  | dead=>simp only [cl] at h;exact List.mem_cons_of_mem _ (EV d h)
  | _=>
   simp only [cl] at h
   split at h
   ·exact List.mem_cons_of_mem _ (EV d h)
   ·rcases List.mem_cons.1 h with rfl | h
    ·exact List.mem_cons_self ..
    ·exact List.mem_cons_of_mem _ (EV d h)

structure Ctx (P:Program) (C:Cfg) (W:Wld) (w0:World) (own0:Own) (Φ:Ask):Prop where
 cfg:CfgOk P C
 eq:EqOk P C
 ask:∀ f sig ins outs,Φ f sig ins outs→FunOk P W f sig ins outs
 world:W.P w0
 low:∀ g i,own0 g=some i→W.G≤g
 mixed:P.follows .mixedOrders=true

structure Now (C:Cfg) (T0:Nat→Value) (w0:World) (own0:Own) (cx:Cx) (S:St) (own:Own) (env:Env) (a:Act) (w:World):Prop where
 wok:WOk w0 own0 cx own w
 inv:Inv S w cx own env (tvA a)
 size:a.tmps.size=C.n
 defers:a.defers=[]
 pin:∀ k,C.pin.any (Nat.beq k)=true→tvA a k=T0 k

section
variable {P:Program}{C:Cfg}{W:Wld}{T0:Nat→Value}{w0:World}{own0:Own}{cx:Cx}{Φ:Ask}{ops:Array Oper}{Q:Exit→Act→World→Prop}

theorem Ctx.hP (X:Ctx P C W w0 own0 Φ){own:Own}{w:World}(h:WOk w0 own0 cx own w):W.P w:=W.keep own0 w0 w h.kept X.low X.world

theorem Ctx.hG (X:Ctx P C W w0 own0 Φ){own:Own}{w:World}(h:WOk w0 own0 cx own w):∀ g,cx.N g→W.G≤g:=fun g hg=>by
 rcases (h.n g).1 hg with h1 | h1
 ·exact Nat.le_trans (W.size w0 X.world) h1
 ·cases ho:own0 g with
  | none=>exact absurd ho h1
  | some i=>exact X.low g i ho

theorem Now.sub {S S':St}{own:Own}{env:Env}{a:Act}{w:World}(h:Now C T0 w0 own0 cx S own env a w)(hs:∀ p∈S',p∈S):Now C T0 w0 own0 cx S' own env a w:=
 ⟨h.wok,fun p hp=>h.inv p (hs p hp),h.size,h.defers,h.pin⟩

theorem Now.done {S:St}{own:Own}{env:Env}{a:Act}{w:World}{u:Up}{own':Own}{w':World}{a':Act}{env':Env}(h:Now C T0 w0 own0 cx S own env a w)(hD:Done cx own w a env u own' w' a' env')(hpin:∀ d sh,u.dst=some (d,sh)→C.pin.any (Nat.beq d)=false):Now C T0 w0 own0 cx (u.run S) own' env' a' w':=
 ⟨h.wok.step hD.st,h.inv.run hD.st hD.af hD.bx hD.dst,hD.size.trans h.size,hD.defers.trans h.defers,fun k hk=>by
  rw [hD.st.tv k (fun e=>?_)]
  ·exact h.pin k hk
  ·unfold Up.d at e
   cases hu:u.dst with
   | none=>rw [hu] at e;cases e
   | some q=>
    rw [hu] at e
    simp only [Option.map_some,Option.some.injEq] at e
    have:=hpin q.1 q.2 hu
    rw [e,hk] at this
    cases this⟩

theorem Hw {S S1:St}{i:Nat}{p:PS}(h:FB C ops S i=some (S1,p)):∃ o u,ops[i]? =some o∧HN C ops (look S) o=some (u,p)∧(∀ q∈S1,q∈u.run S)∧∀ d sh,u.dst=some (d,sh)→C.pin.any (Nat.beq d)=false:=by
 unfold FB at h
 split at h
 ·cases h
 rename_i o ho
 split at h
 ·cases h
 rename_i u p' hc
 rw [aCi] at h
 have hcc:HN C ops (look S) o=some (u,p):=by
  split at h<;>rw [sW] at h<;>simp only [Option.some.injEq,Prod.mk.injEq] at h<;>rw [hc,h.2]
 refine ⟨o,u,ho,hcc,?_,(fun d sh h=>((AE (a:={tmps:=Array.replicate C.n undef,defers:=[] }) (by simp) hcc).1 d sh h).2.2)⟩
 ·unfold Up.run
  split at h
  ·rename_i hd
   rw [sW] at h
   simp only [Option.some.injEq,Prod.mk.injEq] at h
   rw [hd,←h.1]
   exact fun q hq=>EV _ hq
  ·rename_i d nsh hd
   rw [sW] at h
   simp only [Option.some.injEq,Prod.mk.injEq] at h
   rw [hd,←h.1]
   intro q hq
   rcases List.mem_cons.1 hq with rfl | hq
   ·exact List.mem_cons_self ..
   ·exact List.mem_cons_of_mem _ (EV _ hq)

theorem Gv (X:Ctx P C W w0 own0 Φ){S S1:St}{i:Nat}{p:PS}{own:Own}{env env':Env}{a:Act}{w:World}(h:FB C ops S i=some (S1,p))(hN:Now C T0 w0 own0 cx S own env a w)(hp:cG Φ p env env'){K:Act→World→Prop}
  (hK:∀ own' w' a',Now C T0 w0 own0 cx S1 own' env' a' w'→K a' w'):wpOp P ops Q i K a w:=by
 obtain ⟨o,u,ho,hc,hs,hpin⟩:=Hw h
 exact ZX X.cfg X.eq X.ask hN.wok (X.hG hN.wok) (X.hP hN.wok) hN.inv.look hN.size ho hc hp K Q (fun own' w' a' hD=>hK own' w' a' ((hN.done hD hpin).sub hs))

theorem QW (X:Ctx P C W w0 own0 Φ):∀ {l:List Nat} {S S':St} {ps:List PS} {own:Own} {env env':Env} {a:Act} {w:World},cSeq C ops l S=some (S',ps)→Now C T0 w0 own0 cx S own env a w→qB Φ ps env env'→
  (∀ own' w' a',Now C T0 w0 own0 cx S' own' env' a' w'→Q .normal a' w')→wpOps P ops Q l a w
 | [],S,S',ps,own,env,env',a,w,h,hN,hp,hQ=>by
  simp only [cSeq,Option.some.injEq,Prod.mk.injEq] at h
  obtain ⟨rfl,rfl⟩:=h
  simp only [qB] at hp
  subst hp
  exact hQ own w a hN
 | i::r,S,S',ps,own,env,env',a,w,h,hN,hp,hQ=>by
  simp only [cSeq] at h
  split at h
  ·cases h
  rename_i S1 p hc
  split at h
  ·cases h
  rename_i S2 ps2 hs
  simp only [Option.some.injEq,Prod.mk.injEq] at h
  obtain ⟨rfl,rfl⟩:=h
  obtain ⟨e1,h1,h2⟩:=hp
  rw [wpOps_cons]
  exact Gv X hc hN h1 (fun own' w' a' hN'=>QW X hs hN' h2 hQ)

theorem Na:∀ {l:List Nat} {S S':St} {ps:List PS},cSeq C ops l S=some (S',ps)→ps.length=l.length
 | [],S,S',ps,h=>by
  simp only [cSeq,Option.some.injEq,Prod.mk.injEq] at h
  rw [←h.2];rfl
 | i::r,S,S',ps,h=>by
  simp only [cSeq] at h
  split at h
  ·cases h
  split at h
  ·cases h
  rename_i hs
  simp only [Option.some.injEq,Prod.mk.injEq] at h
  rw [←h.2,List.length_cons,List.length_cons,Na hs]

/-! ### any order -/

def oP (D:Nat):List PS→Nat→List PS
 | [],_=>[]
 | q::r,j=>if D.testBit j then oP D r (j+1) else q::oP D r (j+1)

theorem qD (D i j:Nat):(CF D i).testBit j=(D.testBit j||i==j):=by
 unfold CF
 rw [Nat.testBit_or,Nat.one_shiftLeft,Nat.testBit_two_pow]
 rfl

theorem Kq {D i:Nat}:∀ {r:List PS} {j:Nat},i<j→oP (CF D i) r j=oP D r j
 | [],j,_=>rfl
 | q::r,j,h=>by
  have:(i==j)=false:=by simp;omega
  simp only [oP,qD,this,Bool.or_false,Kq (r:=r) (j:=j+1) (Nat.lt_succ_of_lt h)]

theorem Lw {D i:Nat}{q:PS}(hb:D.testBit i=false):∀ {ps:List PS} {j:Nat} {e e':Env},j≤i→ps[i - j]? =some q→Cy D i ps j q=true→qB Φ (oP D ps j) e e'→∃ e1,cG Φ q e e1∧qB Φ (oP (CF D i) ps j) e1 e'
 | [],j,e,e',_,h,_,_=>by simp at h
 | p::r,j,e,e',hj,h,ha,hp=>by
  simp only [Cy] at ha
  cases hji:Nat.beq j i with
  | true=>
   have:j=i:=dY.1 hji
   subst this
   simp only [Nat.sub_self,List.getElem?_cons_zero,Option.some.injEq] at h
   subst h
   simp only [oP,hb,Bool.false_eq_true,if_false] at hp
   obtain ⟨e1,h1,h2⟩:=hp
   refine ⟨e1,h1,?_⟩
   simp only [oP,qD,beq_self_eq_true,Bool.or_true,if_true]
   rw [Kq (Nat.lt_succ_self j)]
   exact h2
  | false=>
   rw [hji] at ha
   simp only [Bool.and_eq_true,Bool.or_eq_true] at ha
   have hne:j≠i:=Nat.ne_of_beq_eq_false hji
   have hji':(i==j)=false:=by simp;omega
   have hget:r[i - (j+1)]? =some q:=by
    rw [←h,show i - j=(i - (j+1))+1 from by omega,List.getElem?_cons_succ]
   cases hbj:D.testBit j with
   | true=>
    simp only [oP,hbj,if_true] at hp
    obtain ⟨e1,h1,h2⟩:=Lw hb (by omega) hget ha.2 hp
    refine ⟨e1,h1,?_⟩
    simp only [oP,qD,hbj,Bool.true_or,if_true]
    exact h2
   | false=>
    simp only [oP,hbj,Bool.false_eq_true,if_false] at hp
    obtain ⟨e2,h3,h4⟩:=hp
    obtain ⟨e3,h5,h6⟩:=Lw hb (by omega) hget ha.2 h4
    have hi:Sx p q=true:=by
     rcases ha.1 with h | h
     ·rw [hbj] at h;cases h
     ·exact h
    obtain ⟨e1,h7,h8⟩:=QT hi h3 h5
    refine ⟨e1,h7,?_⟩
    simp only [oP,qD,hbj,hji',Bool.or_false,Bool.false_eq_true,if_false]
    exact ⟨e3,h8,h6⟩

theorem Hx:∀ {r:List PS} {j:Nat},oP 0 r j=r
 | [],_=>rfl
 | q::r,j=>by simp [oP,Hx]

theorem CN {D:Nat}:∀ {r:List PS} {j:Nat},(∀ k,j≤k→k<j+r.length→D.testBit k=true)→oP D r j=[]
 | [],_,_=>rfl
 | q::r,j,h=>by
  simp only [oP,h j (Nat.le_refl _) (by simp),if_true]
  exact CN (fun k h1 h2=>h k (by omega) (by simp;omega))

def FQ (n:Nat)(listed:Array Bool)(D:Nat):Prop:=listed.size=n∧∀ j,listed.getD j false=D.testBit j

theorem FQ.getT {n:Nat}{listed:Array Bool}{D:Nat}(h:FQ n listed D){j:Nat}(hj:j<n):listed.getD j true=D.testBit j:=by
 rw [←h.2 j]
 have:j<listed.size:=by rw [h.1];exact hj
 simp [this]

theorem FQ.set {n:Nat}{listed:Array Bool}{D:Nat}(h:FQ n listed D){i:Nat}(hi:i<n):FQ n (listed.setIfInBounds i true) (CF D i):=by
 refine ⟨by simp [h.1],fun j=>?_⟩
 rw [qD,←h.2 j]
 have hil:i<listed.size:=by rw [h.1];exact hi
 by_cases hij:i=j
 ·subst hij
  simp [hil]
 ·rw [getD_set_ne false hij]
  simp [hij]

theorem Nb {listed:Array Bool}{D:Nat}(h:FQ ops.size listed D):Region.ready .any ops listed=xG ops D:=by
 unfold Region.ready xG
 apply List.filter_congr
 intro i hi
 have hil:=List.mem_range.1 hi
 rw [h.getT hil]
 unfold QD
 cases hb:D.testBit i with
 | true=>rfl
 | false=>
  simp only [Bool.not_false,Bool.true_and]
  rw [Array.getElem?_eq_getElem hil]
  simp only [Option.map_some,Option.getD_some]
  rw [←Array.all_toList]
  congr 1
  funext e
  rw [h.2 e.on]

theorem ZY {listed:Array Bool}{D i:Nat}(h:FQ ops.size listed D):Region.free .any ops listed i=Sz ops D i:=by
 unfold Region.free Sz
 cases ops[i]? with
 | none=>rfl
 | some oi=>
  dsimp only
  rw [Bool.eq_iff_iff,List.all_eq_true,List.all_eq_true]
  refine forall_congr' fun j=>?_
  refine imp_congr_right fun hj=>?_
  have hjl:=List.mem_range.1 hj
  rw [h.getT hjl]
  have:(j==i)=Nat.beq j i:=by
   rw [Bool.eq_iff_iff,dY,beq_iff_eq]
  rw [this]
  cases ops[j]? <;>rfl

def XS (n D:Nat):Nat:=((List.range n).filter fun i=> !D.testBit i).length

theorem Nc {n D i:Nat}(hi:i<n)(hb:D.testBit i=false):XS n (CF D i)<XS n D:=by
 unfold XS
 have hsub:∀ l:List Nat,((l.filter fun k=> !(CF D i).testBit k)).length≤(l.filter fun k=> !D.testBit k).length:=by
  intro l
  induction l with
  | nil=>simp
  | cons k l ih=>
   simp only [List.filter_cons]
   cases h1:D.testBit k with
   | true=>
    have:(CF D i).testBit k=true:=by rw [qD,h1];rfl
    simp only [this,Bool.not_true,Bool.false_eq_true,if_false]
    exact ih
   | false=>
    simp only [Bool.not_false,if_true,List.length_cons]
    split
    ·simp only [List.length_cons];omega
    ·omega
 have key:∀ l:List Nat,i∈l→((l.filter fun k=> !(CF D i).testBit k)).length<(l.filter fun k=> !D.testBit k).length:=by
  intro l
  induction l with
  | nil=>simp
  | cons k l ih=>
   intro hm
   simp only [List.filter_cons]
   by_cases hki:k=i
   ·subst hki
    have:(CF D k).testBit k=true:=by rw [qD];simp
    simp only [this,hb,Bool.not_true,Bool.false_eq_true,if_false,Bool.not_false,if_true,List.length_cons]
    exact Nat.lt_succ_of_le (hsub l)
   ·have hm':i∈l:=by
     rcases List.mem_cons.1 hm with h | h
     ·exact absurd h.symm hki
     ·exact h
    have hne:(i==k)=false:=by simp;omega
    rw [qD,hne,Bool.or_false]
    cases h1:D.testBit k with
    | true=>simpa using ih hm'
    | false=>simpa using ih hm'
 exact key _ (List.mem_range.2 hi)

theorem FR {D i:Nat}(h:i∈xG ops D):i<ops.size∧D.testBit i=false:=by
 unfold xG at h
 obtain ⟨h1,h2⟩:=List.mem_filter.1 h
 refine ⟨List.mem_range.1 h1,?_⟩
 unfold QD at h2
 cases hb:D.testBit i with
 | true=>rw [hb] at h2;cases h2
 | false=>rfl

theorem AF {ref:List PS}{D:Nat}:∀ {l:List Nat} {k:Nat},EK ops ref D l=some k→k∈l∧∃ o p,ops[k]? =some o∧ref[k]? =some p∧HR o p=true∧Sz ops D k=true
 | [],k,h=>by cases h
 | i::r,k,h=>by
  simp only [EK] at h
  split at h
  ·rename_i o p ho hp
   split at h
   ·rename_i hq
    simp only [Option.some.injEq] at h
    subst h
    simp only [Bool.and_eq_true] at hq
    exact ⟨List.mem_cons_self ..,o,p,ho,hp,hq.1,hq.2⟩
   ·obtain ⟨h1,h2⟩:=AF h
    exact ⟨List.mem_cons_of_mem _ h1,h2⟩
  ·obtain ⟨h1,h2⟩:=AF h
   exact ⟨List.mem_cons_of_mem _ h1,h2⟩

theorem EW {ref:List PS}{tb:Tb}{Sf:St}:∀ {t:Tb} {D:Nat} {S:St},Cw t D=some S→NF C ops ref tb Sf t=true→ZB C ops ref tb Sf (D,S)=true
 | [],D,S,h,_=>by cases h
 | (k,T)::r,D,S,h,hc=>by
  simp only [NF] at hc
  split at hc
  ·rename_i h1
   simp only [Cw] at h
   cases hb:Nat.beq D k with
   | true=>
    rw [hb] at h
    simp only [Option.some.injEq] at h
    rw [dY.1 hb,←h]
    exact h1
   | false=>rw [hb] at h;exact EW h hc
  ·cases hc

theorem Nd {ref:List PS}{tb:Tb}{D i:Nat}{S:St}(h:HS C ops ref tb D S i=true):∃ S1 p S',FB C ops S i=some (S1,p)∧ref[i]? =some p∧Cy D i ref 0 p=true∧Cw tb (CF D i)=some S'∧leT S1 S'=true:=by
 unfold HS at h
 split at h
 ·rename_i S1 p q hc hr
  simp only [Bool.and_eq_true] at h
  obtain ⟨⟨h1,h2⟩,h3⟩:=h
  have:=XR h1
  subst this
  split at h3
  ·rename_i S' hS'
   exact ⟨S1,p,S',hc,hr,h2,hS',h3⟩
  ·cases h3
 ·cases h

theorem ZZ (X:Ctx P C W w0 own0 Φ)(hQp:∀ c a w,¬Q (.panic c) a w)(hsel:Region.noSelect ops=true){ref:List PS}{tb:Tb}{Sf:St}{env':Env}(hlen:ref.length=ops.size)(htb:NF C ops ref tb Sf tb=true)
  (hQ:∀ own' w' a',Now C T0 w0 own0 cx Sf own' env' a' w'→Q .normal a' w'):
  ∀ (fuel D:Nat) (listed:Array Bool) (S:St) (own:Own) (env:Env) (a:Act) (w:World),FQ ops.size listed D→Cw tb D=some S→Now C T0 w0 own0 cx S own env a w→qB Φ (oP D ref 0) env env'→XS ops.size D≤fuel→wpAny P .any ops Q fuel listed a w:=by
 intro fuel
 induction fuel with
 | zero=>
  intro D listed S own env a w hA hS hN hp hc
  have hchk:=EW hS htb
  have hr:=Nb hA
  cases hrd:xG ops D with
  | cons i r=>
   obtain ⟨h1,h2⟩:=FR (ops:=ops) (D:=D) (i:=i) (by rw [hrd];exact List.mem_cons_self ..)
   have:=Nc h1 h2
   omega
  | nil=>
   unfold ZB at hchk
   dsimp only at hchk
   rw [hrd] at hchk
   simp only [Bool.and_eq_true] at hchk
   rw [CN (fun k _ h2=>by
    have:=List.all_eq_true.1 hchk.1 k (List.mem_range.2 (by omega))
    exact this)] at hp
   simp only [qB] at hp
   subst hp
   exact wpAny_done (hr.trans hrd) (hQ own w a ⟨hN.wok,Hv hchk.2 hN.inv,hN.size,hN.defers,hN.pin⟩) 0
 | succ fuel ih=>
  intro D listed S own env a w hA hS hN hp hc
  have hchk:=EW hS htb
  have hr:=Nb hA
  unfold ZB at hchk
  dsimp only at hchk
  cases hrd:xG ops D with
  | nil=>
   rw [hrd] at hchk
   simp only [Bool.and_eq_true] at hchk
   rw [CN (fun k _ h2=>by
    have:=List.all_eq_true.1 hchk.1 k (List.mem_range.2 (by omega))
    exact this)] at hp
   simp only [qB] at hp
   subst hp
   exact wpAny_done (hr.trans hrd) (hQ own w a ⟨hN.wok,Hv hchk.2 hN.inv,hN.size,hN.defers,hN.pin⟩) _
  | cons i r=>
   rw [hrd] at hchk
   dsimp only at hchk
   have go:∀ k,k∈xG ops D→HS C ops ref tb D S k=true→∃ S1 p e1,FB C ops S k=some (S1,p)∧ref[k]? =some p∧cG Φ p env e1∧
     ∀ own' w' a',Now C T0 w0 own0 cx S1 own' e1 a' w'→wpAny P .any ops Q fuel (listed.setIfInBounds k true) a' w':=by
    intro k hk ht
    obtain ⟨h1,h2⟩:=FR hk
    obtain ⟨S1,p,S',h3,h4,h5,h6,h7⟩:=Nd ht
    obtain ⟨e1,h8,h9⟩:=Lw h2 (Nat.zero_le k) (by rw [Nat.sub_zero];exact h4) h5 hp
    refine ⟨S1,p,e1,h3,h4,h8,fun own' w' a' hN'=>?_⟩
    refine ih (CF D k) _ S' own' e1 a' w' (hA.set h1) h6 ⟨hN'.wok,Hv h7 hN'.inv,hN'.size,hN'.defers,hN'.pin⟩ h9 ?_
    have:=Nc h1 h2
    omega
   split at hchk
   ·rename_i k hk
    obtain ⟨h1,o,p0,h2,h3,h4,h5⟩:=AF hk
    obtain ⟨S1,p,e1,k1,k2,k3,k4⟩:=go k (by rw [hrd];exact h1) hchk
    rw [h3] at k2
    simp only [Option.some.injEq] at k2
    subst k2
    obtain ⟨o',u,m1,m2,m3,m4⟩:=Hw k1
    rw [h2] at m1
    simp only [Option.some.injEq] at m1
    subst m1
    obtain ⟨v,own',hy,hD⟩:=XN X.cfg hN.wok hN.inv.look hN.size m2 h4 k3
    refine wpAny_take (i:=k) (oi:=o) (v:=v) h2 hsel (by rw [ZY hA];exact h5) (by rw [hr,hrd];simpa using h1) (fun c a w hc=>absurd hc (hQp _ _ _)) hy ?_
    exact k4 own' w _ ((hN.done hD m4).sub m3)
   ·refine wpAny_all (hr.trans hrd) (by simp) (fun k hk=>?_)
    obtain ⟨S1,p,e1,k1,k2,k3,k4⟩:=go k (by rw [hrd];exact hk) (List.all_eq_true.1 hchk k hk)
    exact Gv X k1 hN k3 k4

theorem Gw {f:Nat→CS→CS}(hf:∀ i c,f i c=c):∀ (l:List CS) (n:Nat),mapi f n l=l
 | [],_=>rfl
 | c::r,n=>by simp only [mapi,hf,Gw hf r]

theorem Nf {f:Nat→CS→CS}(hf:∀ i c,f i c=c):∀ (l:List (Bool×List CS)) (n:Nat),rP f n l=l
 | [],_=>rfl
 | (a,cs)::r,n=>by simp only [rP,Gw hf,Nf hf r]

theorem aC9 (z:Nat):∀ sh:Sh,({}:Up).map z sh=sh:=by
 have hc:∀ i c,({}:Up).cell z i c=c:=fun i c=>by cases c<;>simp [Up.cell,Up.find,Up.isDst,Up.isTo]
 intro sh
 induction sh with
 | v a cs=>simp only [Up.map,Gw hc]
 | box a cs=>simp only [Up.map,Gw hc]
 | el c o=>simp only [Up.map,hc]
 | tup ps=>simp only [Up.map,Nf hc]
 | clo g ds=>
  have:ds.any ({}:Up).hit=false:=by simp [List.any_eq_false,Up.hit,Up.isDst]
  simp only [Up.map,this]
 | opt g b sh ih=>simp [Up.map,Up.isDst,ih]
 | ld p h i=>simp [Up.map,Up.isDst,Up.hit]
 | _=>simp [Up.map,Up.isDst]

theorem Now.drew {S:St}{own:Own}{env:Env}{a:Act}{w:World}(h:Now C T0 w0 own0 cx S own env a w)(n:Nat):Now C T0 w0 own0 cx S own env a {w with drawn:=n }:=by
 have hk:Kept own w {w with drawn:=n }:=⟨rfl,rfl,rfl,Nat.le_refl _,fun _ _ _=>rfl,fun _ _ _ _=>rfl,fun _ cur _ h=>⟨cur,h,rfl⟩⟩
 have st:Step cx own w env (tvA a) (Up.A {}) (Up.W {}) (Up.d {}) own {w with drawn:=n } env (tvA a):=
  ⟨hk,fun _ _ h=>h,fun _ _ _ h=>h,fun _ _ h _=>⟨h,rfl⟩,fun g i hi=>h.wok.dom g i hi,h.wok.inj,fun _ _=>rfl,fun _ _=>rfl⟩
 have af:AffOk cx own w {} own {w with drawn:=n }:=
  ⟨fun a ha=>by simp at ha,fun a ha=>by simp at ha,fun a ha=>by simp at ha,fun h i hd=>by cases hd⟩
 have hrun:∀ S:St,(∀ p∈S,SlotOk w cx own env (tvA a) p.1 p.2)→∀ p∈S,SlotOk {w with drawn:=n } cx own env (tvA a) p.1 p.2:=by
  intro S hS p hp
  have:=KS st af (z:=p.1) (by rintro (h | ⟨q,hq,_⟩);cases h;simp at hq) (hS p hp)
  rwa [aC9] at this
 exact ⟨h.wok.step st,hrun S h.inv,h.size,h.defers,h.pin⟩

theorem Uc (X:Ctx P C W w0 own0 Φ)(hQp:∀ c a w,¬Q (.panic c) a w){id:Nat}{draw:Bool}{S S':St}{ps:List PS}{own:Own}{env env':Env}{a:Act}{w:World}
  (h:(match draw with | false=>cSeq C ops (List.range ops.size) S | true=>WT C ops S)=some (S',ps))(hN:Now C T0 w0 own0 cx S own env a w)(hp:qB Φ ps env env')
  (hQ:∀ own' w' a',Now C T0 w0 own0 cx S' own' env' a' w'→Q .normal a' w'):(Code.region id ops draw).wp P Q a w:=by
 cases draw with
 | false=>exact wp_region (QW X h hN hp hQ)
 | true=>
  dsimp only at h
  unfold WT at h
  split at h
  ·cases h
  rename_i Sf ps' hs
  dsimp only at h
  split at h
  ·rename_i hc
   simp only [Option.some.injEq,Prod.mk.injEq] at h
   obtain ⟨rfl,rfl⟩:=h
   simp only [Bool.and_eq_true] at hc
   obtain ⟨⟨hsel,h0⟩,htb⟩:=hc
   split at h0
   ·rename_i S0 hS0
    refine wp_region_any X.mixed ?_
    have hN':=hN.drew (w.drawn+1)
    have hlen:=Na hs
    rw [List.length_range] at hlen
    refine ZZ X hQp hsel hlen htb hQ ops.size 0 _ S0 own env a _ ⟨by simp,fun j=>?_⟩ hS0 ⟨hN'.wok,Hv h0 hN'.inv,hN'.size,hN'.defers,hN'.pin⟩ (by rw [Hx];exact hp) ?_
    ·rw [Nat.zero_testBit]
     by_cases hj:j<ops.size<;>simp [hj]
    ·unfold XS
     exact Nat.le_trans (List.length_filter_le ..) (by simp)
   ·cases h0
  ·cases h

end

end
section

def EX (sh:Sh)(k:Nat):CS:=
 match sh with
 | .v _ cs=>cs.getD k .x
 | .box _ cs=>cs.getD k .x
 | _=> .x

def wkC (env:Env)(k:Nat)(i:OI):CS→CS→Option OI
 | .o _ _,.r=>none
 | .o _ _,.b=>none
 | .o true f,.o false _=>some {i with bound:=match i.bound,i.path with
  | some 0,[]=>(match (env i.leaf.1)[k]? with | some (.sl xs)=>some (xs.length*f.sz) | _=>none)
  | some 0,_=>none
  | b,_=>b }
 | _,_=>some i

def Yu (T S:St)(env:Env)(i:OI):Option OI:=
 match i.leaf.2 with
 | 0=>some i
 | k+1=>wkC env k i (EX (look T i.leaf.1) k) (EX (look S i.leaf.1) k)

def Pt (T S:St)(env:Env)(own:Own):Own:=fun g=>(own g).bind (Yu T S env)

section
variable {C:Cfg}{T0:Nat→Value}{w0:World}{own0:Own}{cx:Cx}{own:Own}{env:Env}{a:Act}{w:World}{T S:St}

theorem DW {i j:OI}(h:Yu T S env i=some j):j.leaf=i.leaf∧j.path=i.path∧(j.bound=i.bound∨i.bound=some 0):=by
 unfold Yu at h
 split at h
 ·simp only [Option.some.injEq] at h
  subst h
  exact ⟨rfl,rfl,.inl rfl⟩
 ·unfold wkC at h
  split at h
  ·cases h
  ·cases h
  ·simp only [Option.some.injEq] at h
   subst h
   refine ⟨rfl,rfl,?_⟩
   dsimp only
   split
   ·rename_i hb _;exact .inr hb
   ·rename_i hb _;exact .inr hb
   ·exact .inl rfl
  ·simp only [Option.some.injEq] at h
   subst h
   exact ⟨rfl,rfl,.inl rfl⟩

theorem DX {g:Nat}{j:OI}(h:Pt T S env own g=some j):∃ i,own g=some i∧Yu T S env i=some j:=by
 unfold Pt at h
 cases ho:own g with
 | none=>rw [ho] at h;cases h
 | some i=>rw [ho] at h;exact ⟨i,rfl,h⟩

theorem Hy {g:Nat}(h:own g=none):Pt T S env own g=none:=by unfold Pt;rw [h];rfl

theorem xR {g:Nat}{i:OI}(h:own g=some i):Pt T S env own g=Yu T S env i:=by unfold Pt;rw [h];rfl

theorem CO {g o:Nat}(h:claimed (Pt T S env own) g o):claimed own g o:=by
 obtain ⟨j,b,h1,h2,h3⟩:=h
 obtain ⟨i,h4,h5⟩:=DX h1
 obtain ⟨_,_,h6 | h6⟩:=DW h5
 ·exact ⟨i,b,h4,by rw [←h6];exact h2,h3⟩
 ·exact ⟨i,0,h4,h6,Nat.zero_le _⟩

end

theorem Hz:∀ {cs ws:List CS},UM cs ws=true→ws.length=cs.length∧∀ (k:Nat) (c c':CS),cs[k]? =some c→ws[k]? =some c'→WV c c'=true
 | [],[],_=>⟨rfl,fun k c c' h=>by simp at h⟩
 | [],_::_,h=>by cases h
 | _::_,[],h=>by cases h
 | c::r,w::ws,h=>by
  simp only [UM,Bool.and_eq_true] at h
  obtain ⟨h1,h2⟩:=Hz h.2
  refine ⟨by simp [h1],fun k c1 c2 hc hw=>?_⟩
  cases k with
  | zero=>
   simp only [List.getElem?_cons_zero,Option.some.injEq] at hc hw
   rw [←hc,←hw];exact h.1
  | succ k=>exact h2 k c1 c2 (by simpa using hc) (by simpa using hw)

theorem Ng {T S0:St}:∀ {S:St},ZC T S0 S=true→∀ p∈S,QF (look T p.1) p.2=true∧look S0 p.1=p.2
 | [],_,p,hp=>by simp at hp
 | (z,sh)::r,h,p,hp=>by
  simp only [ZC,Bool.and_eq_true] at h
  rcases List.mem_cons.1 hp with rfl | hp
  ·exact ⟨h.1.1,QU h.1.2⟩
  ·exact Ng h.2 p hp

section
variable {C:Cfg}{T0:Nat→Value}{w0:World}{own0:Own}{cx:Cx}{own:Own}{env:Env}{a:Act}{w:World}{T S:St}

theorem TV {d:D}{v:Value}(h:Rep w (RS cx own) d v):Rep w (RS cx (Pt T S env own)) d v:=h.sub fun g o hs=>⟨Hy hs.1,hs.2⟩

theorem aE3 {d:D}{v:Value}(h:Rep w (BS cx own) d v):Rep w (BS cx (Pt T S env own)) d v:=h.sub fun g o hs=>⟨fun hc=>hs.1 (CO hc),hs.2⟩

theorem TW {lf:Leaf}{m:Bool}{f:Fz}{d:D}{v:Value}(hl:∀ i:OI,i.leaf=lf→Yu T S env i=some i)(h:OwnRep w cx own lf m f d v):OwnRep w cx (Pt T S env own) lf m f d v:=by
 cases h with
 | nil=>exact .nil
 | sl xs g cap cur Ty fr vs h1 h2 h3 h4 h5 h6 h7 h8 h9 h10=>
  refine .sl xs g cap cur Ty fr vs h1 (by rw [xR h2];exact hl _ rfl) h3 h4 h5 h6 h7 h8 h9 (fun i x j d hx hj=>?_)
  have h11:=h10 i x j d hx hj
  obtain ⟨sz,u⟩:=f
  cases u with
  | false=>exact TV h11
  | true=>exact InRep.keep h11 (fun g i hi hle=>⟨by rw [xR hi,hl i hle,←hle],rfl⟩)
 | ip xs v hf h1=>exact .ip xs v hf (InRep.keep h1 (fun g i hi hle=>⟨by rw [xR hi,hl i hle,←hle],rfl⟩))

theorem TX (hdom:∀ g i,own g=some i→cx.N g){lf:Leaf}{m:Bool}{f:Fz}{d:D}{v:Value}(hl:∀ i:OI,i.leaf=lf→Yu T S env i=none)(h:OwnRep w cx own lf m f d v):Rep w (RS cx (Pt T S env own)) d v:=
 h.frozen (fun g i hi hle=>⟨by rw [xR hi];exact hl i hle,hdom g i hi⟩) (fun g hg=>Hy hg)

theorem Za (hN:∀ g i,own g=some i→cx.N g)(h12:∀ g o,cx.S1 g o→cx.S2 g o){z k:Nat}{c c':CS}{d:D}{v:Value}(hT:EX (look T z) k=c)(hS:EX (look S z) k=c')(he:(env z)[k]? =some d)(hle:WV c c'=true)(h:aS w cx own z k c d v):
  aS w cx (Pt T S env own) z k c' d v:=by
 refine ⟨h.1,?_⟩
 have h2:=h.2
 have hwk:∀ i:OI,i.leaf=(z,k+1)→Yu T S env i=wkC env k i c c':=by
  intro i hi
  unfold Yu
  have e2:i.leaf.2=k+1:=by rw [hi]
  have e1:i.leaf.1=z:=by rw [hi]
  rw [e2]
  dsimp only
  rw [e1,hT,hS]
 cases c' with
 | x=>trivial
 | n=>cases c<;>simp [WV] at hle;exact h2
 | s=>cases c<;>simp [WV] at hle;exact h2
 | al _ _ _ _=>cases c<;>simp [WV] at hle
 | r=>
  cases c<;>simp [WV] at hle
  ·obtain ⟨e1,e2⟩:=h2;rw [e1,e2];exact .nil _ _
  ·exact TV h2
  ·exact TX hN (fun i hi=>hwk i hi) h2
 | b=>
  have hrs:∀ {g o},RS cx (Pt T S env own) g o→BS cx (Pt T S env own) g o:=FF h12
  cases c<;>simp [WV] at hle
  ·obtain ⟨e1,e2⟩:=h2;rw [e1,e2];exact .nil _ _
  ·exact Rep.sub (TV h2) (fun g o=>hrs)
  ·exact aE3 h2
  ·exact Rep.sub (TX hN (fun i hi=>hwk i hi) h2) (fun g o=>hrs)
 | o m' f'=>
  cases c with
  | n=>obtain ⟨e1,e2⟩:=h2;rw [e1,e2];exact .nil
  | o m f=>
   simp only [WV,Bool.and_eq_true,Bool.or_eq_true,Bool.not_eq_true',pO] at hle
   obtain ⟨⟨hm,rfl⟩,hsz⟩:=hle
   cases m with
   | false=>
    have:m'=false:=by simpa using hm
    subst this
    exact TW (fun i hi=>hwk i hi) h2
   | true=>
    cases m' with
    | true=>exact TW (fun i hi=>hwk i hi) h2
    | false=>
     cases h2 with
     | nil=>exact .nil
     | sl xs g cap cur Ty fr vs h1 h2 h3 h4 h5 h6 h7 h8 h9 h10=>
      refine .sl xs g cap cur Ty fr vs h1 ?_ h3 h4 h5 h6 h7 h8 h9 (fun i x j d hx hj=>?_)
      ·rw [xR h2,hwk _ rfl]
       simp only [wkC,he,if_true,Bool.false_eq_true,if_false]
      ·have h11:=h10 i x j d hx hj
       obtain ⟨sz,u⟩:=f
       cases u with
       | false=>exact TV h11
       | true=>
        refine InRep.map h11 [] (by simp) (fun g i hi hle hne hb=>⟨?_,rfl⟩)
        rw [xR hi,hwk i hle]
        simp only [if_true] at hb
        obtain ⟨lf,pa,bo⟩:=i
        dsimp only at hb hle hne ⊢
        subst hb;subst hle
        cases pa with
        | nil=>exact absurd rfl hne
        | cons p r=>rfl
     | ip _ _ hf _=>
      exfalso
      rw [hf] at hsz
      rcases hsz with hsz | hsz<;>cases hsz
  | _=>simp [WV] at hle

theorem Kr {cs ws:List CS}(hle:UM cs ws=true){ds:List D}{z:Nat}(hds:ds=env z){ag:Bool}(hN:∀ g i,own g=some i→cx.N g)(h12:∀ g o,cx.S1 g o→cx.S2 g o)(hT:∀ k,EX (look T z) k=cs.getD k .x)(hS:∀ k,EX (look S z) k=ws.getD k .x){vs:List Value}
  (h:All3 (aS w cx own z) cs ds vs):All3 (aS w cx (Pt T S env own) z) ws ds vs:=by
 obtain ⟨k1,k2⟩:=Hz hle
 refine ⟨k1.trans h.1,h.2.1,fun k c x v hc hx hv=>?_⟩
 have hk:k<cs.length:=by rw [h.1];exact (List.getElem?_eq_some_iff.1 hx).1
 have hck:cs[k]? =some cs[k]:=List.getElem?_eq_getElem hk
 refine Za hN h12 (c:=cs[k]) ?_ ?_ (by rw [←hds];exact hx) (k2 k _ c hck hc) (h.2.2 k _ x v hck hx hv)
 ·rw [hT k,List.getD_eq_getElem?_getD,hck];rfl
 ·rw [hS k,List.getD_eq_getElem?_getD,hc];rfl

theorem Gx (hle:WW T S=true)(hN:Now C T0 w0 own0 cx T own env a w):∃ own',Now C T0 w0 own0 cx S own' env a w:=by
 have hw:=hN.wok
 have hNN:∀ g i,own g=some i→cx.N g:=fun g i h=>(hw.dom g i h).2
 refine ⟨Pt T S env own,⟨hw.kept,fun g j hj=>?_,hw.n,hw.s1,hw.s2,fun g o hg hc=>hw.cl g o hg (CO hc),fun g g' i j hi hj hl hp=>?_⟩,fun p hp=>?_,hN.size,hN.defers,hN.pin⟩
 ·obtain ⟨i,h1,_⟩:=DX hj
  exact hw.dom g i h1
 ·obtain ⟨i0,h1,h2⟩:=DX hi
  obtain ⟨j0,h3,h4⟩:=DX hj
  obtain ⟨a1,a2,_⟩:=DW h2
  obtain ⟨b1,b2,_⟩:=DW h4
  exact hw.inj g g' i0 j0 h1 h3 (by rw [←a1,←b1];exact hl) (by rw [←a2,←b2];exact hp)
 ·obtain ⟨z,sh⟩:=p
  obtain ⟨h1,h2⟩:=Ng hle _ hp
  have hz:=hN.inv.look z
  dsimp only at h1 h2 ⊢
  generalize hT:look T z=shT at h1 hz
  cases sh with
  | dead=>trivial
  | v ag ws=>
   cases shT<;>simp only [QF,Bool.false_eq_true] at h1
   rename_i ag' cs
   simp only [Bool.and_eq_true,bC] at h1
   obtain ⟨rfl,h1⟩:=h1
   obtain ⟨vs,q1,q2,q3⟩:=hz
   exact ⟨vs,q1,q2,Kr (ag:=ag') h1 rfl hNN hw.s1 (fun k=>by rw [hT];rfl) (fun k=>by rw [h2];rfl) q3⟩
  | box ro ws=>
   cases shT<;>simp only [QF,Bool.false_eq_true] at h1
   rename_i ro' cs
   simp only [Bool.and_eq_true,bC] at h1
   obtain ⟨rfl,h1⟩:=h1
   obtain ⟨g,cur,Ty,q1,q2,q3,q4⟩:=hz
   refine ⟨g,cur,Ty,q1,q2,Kr (ag:=ro') h1 rfl hNN hw.s1 (fun k=>by rw [hT];rfl) (fun k=>by rw [h2];rfl) q3,?_⟩
   cases ro' with
   | true=>
    simp only [if_true] at q4 ⊢
    refine ⟨Hy q4.1,q4.2.1,fun c hc=>?_⟩
    obtain ⟨k1,k2⟩:=Hz h1
    obtain ⟨k,hk⟩:=List.getElem?_of_mem hc
    have hkl:k<cs.length:=by rw [←k1];exact (List.getElem?_eq_some_iff.1 hk).1
    have hck:cs[k]? =some cs[k]:=List.getElem?_eq_getElem hkl
    have hle:=k2 k _ c hck hk
    rcases q4.2.2 cs[k] (List.getElem_mem hkl) with e | e | e<;>rw [e] at hle<;>cases c<;>simp_all [WV]
   | false=>
    simp only [Bool.false_eq_true,if_false] at q4 ⊢
    rw [xR q4]
    rfl
  | pt b off=>
   cases shT<;>simp only [QF,Bool.false_eq_true] at h1
   simp only [Bool.and_eq_true,dY] at h1
   obtain ⟨rfl,rfl⟩:=h1
   exact hz
  | clo g ds=>
   cases shT<;>simp only [QF,Bool.false_eq_true] at h1
   simp only [Bool.and_eq_true,dY] at h1
   obtain ⟨rfl,h1⟩:=h1
   have:=Ht h1
   subst this
   obtain ⟨fs,cs,q1,q2⟩:=hz
   refine ⟨fs,cs,q1,Rep.sub q2 (fun g o hs=>?_)⟩
   rcases hs with hs | ⟨i,hi,hd⟩
   ·exact .inl ⟨fun hc=>hs.1 (CO hc),hs.2⟩
   ·cases hwk:Yu T S env i with
    | none=>exact .inl ⟨aW (by rw [xR hi];exact hwk),.inr (hNN g i hi)⟩
    | some j=>
     obtain ⟨e1,_⟩:=DW hwk
     exact .inr ⟨j,by rw [xR hi];exact hwk,by rw [e1];exact hd⟩
  | _=>cases shT<;>simp [QF] at h1

end

end
section

section
variable {P:Program}{C:Cfg}{W:Wld}{T0:Nat→Value}{w0:World}{own0:Own}{cx:Cx}{Φ:Ask}{F:Fin}

theorem Nh {own:Own}{w:World}(hN:∀ g i,own g=some i→cx.N g)(h12:∀ g o,cx.S1 g o→cx.S2 g o){s i:Nat}{c:CS}{d:D}{v:Value}(h:aS w cx own s i c d v):aS w cx own s i (WU c) d v:=by
 refine ⟨h.1,?_⟩
 have h2:=h.2
 cases c with
 | al hh k m f=>
  cases m with
  | true=>trivial
  | false=>exact OwnRep.borrow (f:=f) h2 hN h12
 | _=>exact h2

theorem All3.map' {Q:Nat→CS→D→Value→Prop}{f:CS→CS}{cs:List CS}{ds:List D}{vs:List Value}(h:All3 Q cs ds vs)(hf:∀ i c d v,Q i c d v→Q i (f c) d v):All3 Q (cs.map f) ds vs:=by
 refine ⟨by rw [List.length_map];exact h.1,h.2.1,fun i c d v hc hd hv=>?_⟩
 rw [List.getElem?_map] at hc
 cases hci:cs[i]? with
 | none=>rw [hci] at hc;cases hc
 | some c0=>
  rw [hci] at hc
  simp only [Option.map_some,Option.some.injEq] at hc
  rw [←hc]
  exact hf i c0 d v (h.2.2 i c0 d v hci hd hv)

theorem Ud {own:Own}{w:World}{env:Env}{tv:Nat→Value}(hN:∀ g i,own g=some i→cx.N g)(h12:∀ g o,cx.S1 g o→cx.S2 g o){z:Nat}{sh:Sh}(h:SlotOk w cx own env tv z sh):SlotOk w cx own env tv z (QE sh):=by
 cases sh with
 | v ag cs=>
  obtain ⟨vs,h1,h2,h3⟩:=h
  exact ⟨vs,h1,h2,h3.map' fun i c d v h=>Nh hN h12 h⟩
 | box ro cs=>
  obtain ⟨g,cur,T,h1,h2,h3,h4⟩:=h
  refine ⟨g,cur,T,h1,h2,h3.map' fun i c d v h=>Nh hN h12 h,?_⟩
  cases ro with
  | false=>exact h4
  | true=>
   simp only [if_true] at h4 ⊢
   refine ⟨h4.1,h4.2.1,fun c hc=>?_⟩
   obtain ⟨c0,hc0,rfl⟩:=List.mem_map.1 hc
   rcases h4.2.2 c0 hc0 with e | e | e<;>rw [e]<;>simp [WU]
 | pt b off=>exact h
 | clo g ds=>exact h
 | dead=>trivial
 | el _ _=>trivial
 | bx _ _ _=>trivial
 | tup _=>trivial
 | opt _ _ _=>trivial
 | ld _ _ _=>trivial

theorem EY {k:List Bool}:∀ {S:St} {p:Nat×Sh},p∈FC k S→∃ sh,(p.1,sh)∈S∧p.2=QE sh
 | [],p,h=>by simp [FC] at h
 | (z,sh)::r,p,h=>by
  simp only [FC] at h
  split at h
  ·rcases List.mem_cons.1 h with rfl | h
   ·exact ⟨sh,List.mem_cons_self ..,rfl⟩
   ·obtain ⟨sh',h1,h2⟩:=EY h
    exact ⟨sh',List.mem_cons_of_mem _ h1,h2⟩
  ·obtain ⟨sh',h1,h2⟩:=EY h
   exact ⟨sh',List.mem_cons_of_mem _ h1,h2⟩

theorem Now.norm {S:St}{own:Own}{env:Env}{a:Act}{w:World}(h:Now C T0 w0 own0 cx S own env a w)(k:List Bool):Now C T0 w0 own0 cx (FC k S) own env a w:=
 ⟨h.wok,fun p hp=>by
  obtain ⟨sh,h1,h2⟩:=EY hp
  rw [h2]
  exact Ud (fun g i hi=>(h.wok.dom g i hi).2) h.wok.s1 (h.inv _ h1),h.size,h.defers,h.pin⟩

theorem Now.normA {S:St}{own:Own}{env:Env}{a:Act}{w:World}(h:Now C T0 w0 own0 cx S own env a w)(b:Bool)(k:List Bool):Now C T0 w0 own0 cx (match b with | true=>S | false=>FC k S) own env a w:=by
 cases b
 ·exact h.norm k
 ·exact h

def Wk (C:Cfg)(T0:Nat→Value)(w0:World)(own0:Own)(cx:Cx)(X J:St):Prop:=∀ own env a w,Now C T0 w0 own0 cx X own env a w→∃ own',Now C T0 w0 own0 cx J own' env a w

theorem Wk.refl (X:St):Wk C T0 w0 own0 cx X X:=fun own _ _ _ h=>⟨own,h⟩
theorem Wk.trans {X Y Z:St}(h:Wk C T0 w0 own0 cx X Y)(h':Wk C T0 w0 own0 cx Y Z):Wk C T0 w0 own0 cx X Z:=fun own env a w hx=>by
 obtain ⟨o1,h1⟩:=h own env a w hx
 exact h' o1 env a w h1
theorem Wk.le {X Y:St}(h:WW X Y=true):Wk C T0 w0 own0 cx X Y:=fun _ _ _ _ hx=>Gx h hx

theorem XT {S T J:St}(h:WX S T=some J):Wk C T0 w0 own0 cx S J∧Wk C T0 w0 own0 cx T J:=by
 unfold WX at h
 rw [sW] at h
 split at h
 ·rename_i hc
  simp only [Bool.and_eq_true] at hc
  simp only [Option.some.injEq] at h
  rw [←h]
  exact ⟨.le hc.1,.le hc.2⟩
 ·cases h

theorem Ni {s t o:Option St}(h:TA s t=some o):(∀ S,s=some S→∃ J,o=some J∧Wk C T0 w0 own0 cx S J)∧(∀ T,t=some T→∃ J,o=some J∧Wk C T0 w0 own0 cx T J):=by
 unfold TA at h
 split at h
 ·simp only [Option.some.injEq] at h
  subst h
  exact ⟨fun S e=>(by cases e),fun T e=>⟨T,e,.refl T⟩⟩
 ·simp only [Option.some.injEq] at h
  subst h
  exact ⟨fun S e=>⟨S,e,.refl S⟩,fun T e=>(by cases e)⟩
 ·rename_i S T
  split at h
  ·rename_i J hJ
   simp only [Option.some.injEq] at h
   subst h
   obtain ⟨h1,h2⟩:=XT (C:=C) (T0:=T0) (w0:=w0) (own0:=own0) (cx:=cx) hJ
   exact ⟨fun S' e=>(by cases e;exact ⟨J,rfl,h1⟩),fun T' e=>(by cases e;exact ⟨J,rfl,h2⟩)⟩
  ·cases h

theorem IA:∀ {l:List St} {s o:Option St},Cz l s=some o→(∀ S,s=some S→∃ J,o=some J∧Wk C T0 w0 own0 cx S J)∧(∀ T∈l,∃ J,o=some J∧Wk C T0 w0 own0 cx T J)
 | [],s,o,h=>by
  simp only [Cz,Option.some.injEq] at h
  subst h
  exact ⟨fun S e=>⟨S,e,.refl S⟩,fun T hT=>by simp at hT⟩
 | X::r,s,o,h=>by
  simp only [Cz] at h
  split at h
  ·rename_i o' ho
   obtain ⟨a1,a2⟩:=Ni (C:=C) (T0:=T0) (w0:=w0) (own0:=own0) (cx:=cx) ho
   obtain ⟨b1,b2⟩:=IA h
   refine ⟨fun S e=>?_,fun T hT=>?_⟩
   ·obtain ⟨J,h1,h2⟩:=a1 S e
    obtain ⟨J',h3,h4⟩:=b1 J h1
    exact ⟨J',h3,h2.trans h4⟩
   ·rcases List.mem_cons.1 hT with rfl | hT
    ·obtain ⟨J,h1,h2⟩:=a2 T rfl
     obtain ⟨J',h3,h4⟩:=b1 J h1
     exact ⟨J',h3,h2.trans h4⟩
    ·exact b2 T hT
  ·cases h

theorem IB {id:Nat}:∀ {l:List (Nat×St)} {S:St},(id,S)∈l→S∈WY id l
 | [],S,h=>by simp at h
 | (k,T)::r,S,h=>by
  simp only [WY]
  rcases List.mem_cons.1 h with h | h
  ·simp only [Prod.mk.injEq] at h
   rw [show Nat.beq k id=true from dY.2 h.1.symm,h.2]
   exact List.mem_cons_self ..
  ·cases hb:Nat.beq k id with
   | true=>exact List.mem_cons_of_mem _ (IB h)
   | false=>exact IB h

theorem EZ {id j:Nat}(hj:j≠id):∀ {l:List (Nat×St)} {S:St},(j,S)∈l→(j,S)∈NH id l
 | [],S,h=>by simp at h
 | (k,T)::r,S,h=>by
  simp only [NH]
  rcases List.mem_cons.1 h with h | h
  ·simp only [Prod.mk.injEq] at h
   have:Nat.beq k id=false:=by
    cases hb:Nat.beq k id with
    | false=>rfl
    | true=>exact absurd (h.1.trans (dY.1 hb)) hj
   rw [this,h.1,h.2]
   exact List.mem_cons_self ..
  ·cases hb:Nat.beq k id with
   | true=>exact EZ hj h
   | false=>exact List.mem_cons_of_mem _ (EZ hj h)

def Lx (C:Cfg)(F:Fin)(T0:Nat→Value)(w0:World)(own0:Own)(cx:Cx)(out:Option St)(ex:List (Nat×St))(Q:PX→Env→Prop):Exit→Act→World→Prop
 | .normal,a,w=>∃ T own env,out=some T∧Now C T0 w0 own0 cx T own env a w∧Q .normal env
 | .exit id,a,w=>∃ T own env,(id,T)∈ex∧Now C T0 w0 own0 cx T own env a w∧Q (.exit id) env
 | .ret,a,w=>∃ S l R own env,wH C F S=some (l,R)∧Now C T0 w0 own0 cx R own env a w∧Q (.ret (l.map env)) env
 | _,_,_=>False

theorem Lx.mono {out out':Option St}{ex ex':List (Nat×St)}{Q Q':PX→Env→Prop}(h1:∀ T,out=some T→∃ J,out'=some J∧Wk C T0 w0 own0 cx T J)(h2:∀ p∈ex,p∈ex')(hq:∀ x e,Q x e→Q' x e){e:Exit}{a:Act}{w:World}
  (h:Lx C F T0 w0 own0 cx out ex Q e a w):Lx C F T0 w0 own0 cx out' ex' Q' e a w:=by
 cases e with
 | normal=>
  obtain ⟨T,own,env,q1,q2,q3⟩:=h
  obtain ⟨J,h3,h4⟩:=h1 T q1
  obtain ⟨own',h5⟩:=h4 own env a w q2
  exact ⟨J,own',env,h3,h5,hq _ _ q3⟩
 | exit id=>
  obtain ⟨T,own,env,q1,q2,q3⟩:=h
  exact ⟨T,own,env,h2 _ q1,q2,hq _ _ q3⟩
 | ret=>
  obtain ⟨S,l,R,own,env,q1,q2,q3⟩:=h
  exact ⟨S,l,R,own,env,q1,q2,hq _ _ q3⟩
 | _=>exact h

theorem rY {p:Nat→Prop}:∀ {n:Nat},p n→∃ m,p m∧∀ k,p k→m≤k:=by
 intro n
 induction n using Nat.strongRecOn with
 | _ n ih=>
  intro hn
  rcases Classical.em (∃ k,k<n∧p k) with ⟨k,hk,hp⟩ | hno
  ·exact ih k hk hp
  ·exact ⟨n,hn,fun k hk=>by
    rcases Nat.lt_or_ge k n with h | h
    ·exact absurd ⟨k,h,hk⟩ hno
    ·exact h⟩

def Ly (Φ:Ask)(a:PC)(Q:PX→Env→Prop)(n:Nat):Env→Prop:=
 Nat.rec (motive:=fun _=>Env→Prop) (fun _=>False) (fun _ ih e=>pwp Φ a (PX.then ih Q) e) n

theorem TY {f:St→Option Res}:∀ {n:Nat} {S S':St} {r:Res},ZD f n S=some (r,S')→Wk C T0 w0 own0 cx S S'∧f S'=some r∧∀ T,r.out=some T→Wk C T0 w0 own0 cx T S'
 | 0,S,S',r,h=>by cases h
 | n+1,S,S',r,h=>by
  simp only [ZD] at h
  split at h
  ·cases h
  rename_i r0 hf
  split at h
  ·rename_i ho
   simp only [Option.some.injEq,Prod.mk.injEq] at h
   obtain ⟨rfl,rfl⟩:=h
   exact ⟨.refl _,hf,fun T e=>by rw [ho] at e;cases e⟩
  ·rename_i T ho
   split at h
   ·rename_i hle
    simp only [Option.some.injEq,Prod.mk.injEq] at h
    obtain ⟨rfl,rfl⟩:=h
    refine ⟨.refl _,hf,fun T' e=>?_⟩
    rw [ho] at e
    simp only [Option.some.injEq] at e
    rw [←e]
    exact .le hle
   ·rw [sW] at h
    split at h
    ·rename_i hle
     obtain ⟨h1,h2,h3⟩:=TY h
     exact ⟨(Wk.le hle).trans h1,h2,h3⟩
    ·cases h

theorem Zb {id:Nat}{S S0:St}(h:aCu C id S=some S0):Wk C T0 w0 own0 cx S S0:=by
 unfold aCu at h
 split at h
 ·simp only [Option.some.injEq] at h
  rw [←h];exact .refl S
 ·rw [sW] at h
  split at h
  ·rename_i hle
   simp only [Option.some.injEq] at h
   rw [←h];exact .le hle
  ·cases h

theorem rZ (X:Ctx P C W w0 own0 Φ):∀ {c:Code} {S:St} {r:Res},cCode C F c S=some r→∀ {Q:PX→Env→Prop} {own:Own} {env:Env} {a:Act} {w:World},Now C T0 w0 own0 cx S own env a w→pwp Φ r.pc Q env→c.wp P (Lx C F T0 w0 own0 cx r.out r.ex Q) a w:=by
 intro c
 induction c with
 | skip=>
  intro S r h Q own env a w hN hp
  simp only [cCode,Option.some.injEq] at h
  subst h
  exact wp_skip ⟨S,own,env,rfl,hN,hp⟩
 | region id ops draw=>
  intro S r h Q own env a w hN hp
  simp only [cCode] at h
  split at h
  ·simp only [Option.some.injEq] at h
   subst h
   exact hp.elim
  split at h
  ·rename_i S0 hpre
   obtain ⟨own0',hN⟩:=Zb hpre own env a w hN
   split at h
   ·rename_i S' ps hc
    rw [sW] at h
    simp only [Option.some.injEq] at h
    subst h
    unfold TB at hc
    split at hc
    ·rename_i S1 ps1 hs
     simp only [Option.some.injEq,Prod.mk.injEq] at hc
     obtain ⟨rfl,rfl⟩:=hc
     obtain ⟨e1,h1,h2⟩:=hp
     refine Uc X (fun c a w h=>h) hs hN h1 (fun own' w' a' hN'=>?_)
     exact ⟨_,own',e1,rfl,(hN'.normA C.al C.keep).sub (fun p hp=>EV _ hp),h2⟩
    ·cases hc
   ·cases h
  ·cases h
 | seq x y ihx ihy=>
  intro S r h Q own env a w hN hp
  simp only [cCode] at h
  split at h
  ·cases h
  rename_i ra ha
  split at h
  ·rename_i ho
   simp only [Option.some.injEq] at h
   subst h
   refine wp_seq (wp_mono (ihx ha hN hp) (fun e a w h=>?_))
   cases e with
   | normal=>
    obtain ⟨T,_,_,q1,_⟩:=h
    rw [ho] at q1;cases q1
   | _=>exact h
  ·rename_i T ho
   split at h
   ·cases h
   rename_i rb hb
   simp only [Option.some.injEq] at h
   subst h
   refine wp_seq (wp_mono (ihx ha hN hp) (fun e a w h=>?_))
   cases e with
   | normal=>
    obtain ⟨T',own',env',q1,q2,q3⟩:=h
    rw [ho] at q1
    simp only [Option.some.injEq] at q1
    subst q1
    exact wp_mono (ihy hb q2 q3) (fun e a w h=>Lx.mono (fun T e=>⟨T,e,.refl T⟩) (fun p hp=>List.mem_append_right _ hp) (fun _ _ h=>h) h)
   | exit id=>
    obtain ⟨T',own',env',q1,q2,q3⟩:=h
    exact ⟨T',own',env',List.mem_append_left _ q1,q2,q3⟩
   | ret=>exact h
   | _=>exact h
 | cond c x y ihx ihy=>
  intro S r h Q own env a w hN hp
  simp only [cCode] at h
  split at h
  ·cases h
  rename_i hs
  simp only [Bool.not_eq_true',Bool.not_eq_false] at hs
  split at h
  ·rename_i ra rb ha hb
   split at h
   ·rename_i o ho
    simp only [Option.some.injEq] at h
    subst h
    obtain ⟨k1,k2⟩:=Ni (C:=C) (T0:=T0) (w0:=w0) (own0:=own0) (cx:=cx) ho
    obtain ⟨d,v,h1,h2,h3⟩:=EJ (g:=none) hN.inv.look (fun gs b e=>by cases e) hs
    simp only [pwp,h2] at hp
    rcases hp with ⟨e1,hp⟩ | ⟨e1,hp⟩
    ·simp only [List.cons.injEq,and_true] at e1
     subst e1
     have:=h3.bool'
     subst this
     exact wp_cond_true h1 (wp_mono (ihx ha hN hp) (fun e a w h=>Lx.mono k1 (fun p hp=>List.mem_append_left _ hp) (fun _ _ h=>h) h))
    ·simp only [List.cons.injEq,and_true] at e1
     subst e1
     have:=h3.bool'
     subst this
     exact wp_cond_false h1 (wp_mono (ihy hb hN hp) (fun e a w h=>Lx.mono k2 (fun p hp=>List.mem_append_right _ hp) (fun _ _ h=>h) h))
   ·cases h
  ·cases h
 | block id x ih=>
  intro S r h Q own env a w hN hp
  simp only [cCode] at h
  split at h
  ·cases h
  rename_i ra ha
  split at h
  ·rename_i o ho
   simp only [Option.some.injEq] at h
   subst h
   obtain ⟨k1,k2⟩:=IA (C:=C) (T0:=T0) (w0:=w0) (own0:=own0) (cx:=cx) ho
   refine wp_block (wp_mono (ih ha hN hp) (fun e a w h=>?_))
   cases e with
   | normal=>
    obtain ⟨T,own',env',q1,q2,q3⟩:=h
    obtain ⟨J,h3,h4⟩:=k1 T q1
    obtain ⟨own2,h5⟩:=h4 own' env' a w q2
    exact ⟨J,own2,env',h3,h5,q3⟩
   | exit j=>
    obtain ⟨T,own',env',q1,q2,q3⟩:=h
    simp only [Exit.inBlock]
    simp only [PX.inBlock] at q3
    by_cases hj:j=id
    ·subst hj
     rw [if_pos rfl] at q3 ⊢
     obtain ⟨J,h3,h4⟩:=k2 T (IB q1)
     obtain ⟨own2,h5⟩:=h4 own' env' a w q2
     exact ⟨J,own2,env',h3,h5,q3⟩
    ·rw [if_neg hj] at q3 ⊢
     exact ⟨T,own',env',EZ hj q1,q2,q3⟩
   | ret=>
    obtain ⟨S',l,R,own',env',q1,q2,q3⟩:=h
    exact ⟨S',l,R,own',env',q1,q2,q3⟩
   | _=>exact h
  ·cases h
 | loop x ih=>
  intro S r h Q own env a w hN hp
  simp only [cCode] at h
  split at h
  ·rename_i ra S' hi
   simp only [Option.some.injEq] at h
   subst h
   obtain ⟨k1,k2,k3⟩:=TY (C:=C) (T0:=T0) (w0:=w0) (own0:=own0) (cx:=cx) hi
   obtain ⟨BT,hN1⟩:=k1 own env a w hN
   obtain ⟨n,hn⟩:=hp
   have hn':Ly Φ ra.pc Q n env:=hn
   let R:Act→World→Nat→Prop:=fun a w m=>∃ own env,Now C T0 w0 own0 cx S' own env a w∧Ly Φ ra.pc Q m env
   let μ:Act→World→Nat:=fun a w=>open Classical in if h:∃ m,R a w m then Classical.choose (rY h.choose_spec) else 0
   have hμ:∀ {a w m},R a w m→R a w (μ a w)∧μ a w≤m:=by
    intro a w m hm
    have hex:∃ m,R a w m:=⟨m,hm⟩
    have hs:=Classical.choose_spec (rY hex.choose_spec)
    have:μ a w=Classical.choose (rY hex.choose_spec):=by
     show (open Classical in if h:∃ m,R a w m then Classical.choose (rY h.choose_spec) else 0)=_
     rw [dif_pos hex]
    rw [this]
    exact ⟨hs.1,hs.2 m hm⟩
   refine wp_loop (fun a w=>∃ m,R a w m) μ ⟨n,BT,env,hN1,hn'⟩ (fun a w hI=>?_)
   obtain ⟨m0,hm0⟩:=hI
   obtain ⟨⟨own2,env2,hN2,hr⟩,_⟩:=hμ hm0
   generalize hm:μ a w=m at hr
   cases m with
   | zero=>exact hr.elim
   | succ m=>
    have hr':pwp Φ ra.pc (PX.then (Ly Φ ra.pc Q m) Q) env2:=hr
    refine wp_mono (ih k2 hN2 hr') (fun e a' w' h=>?_)
    cases e with
    | normal=>
     obtain ⟨T,own3,env3,q1,q2,q3⟩:=h
     obtain ⟨own4,hN4⟩:=k3 T q1 own3 env3 a' w' q2
     have hR:R a' w' m:=⟨own4,env3,hN4,q3⟩
     have:=(hμ hR).2
     exact ⟨⟨m,hR⟩,by omega⟩
    | exit id=>exact h
    | ret=>exact h
    | _=>exact h
  ·cases h
 | exit id=>
  intro S r h Q own env a w hN hp
  simp only [cCode,Option.some.injEq] at h
  subst h
  exact wp_exit ⟨S,own,env,List.mem_singleton.2 rfl,hN,hp⟩
 | ret=>
  intro S r h Q own env a w hN hp
  simp only [cCode] at h
  split at h
  ·rename_i l R hr
   simp only [Option.some.injEq] at h
   subst h
   have hle:WW S R=true:=by
    unfold wH at hr
    split at hr
    ·dsimp only at hr
     split at hr
     ·rename_i hc
      simp only [Bool.and_eq_true] at hc
      simp only [Option.some.injEq,Prod.mk.injEq] at hr
      rw [←hr.2]
      exact hc.2
     ·cases hr
    ·cases hr
   obtain ⟨own',hN'⟩:=Gx hle hN
   exact wp_ret ⟨S,l,R,own',env,hr,hN',hp⟩
  ·cases h
 | _=>
  intro S r h
  simp [cCode] at h

end

end
end V
end Go.Proofs.YtgekfemnjphmbaaGreat
