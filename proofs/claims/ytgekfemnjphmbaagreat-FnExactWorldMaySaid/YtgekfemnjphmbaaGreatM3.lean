/-
Part 3 of the proof of the claimed statement (its last part holds the theorem, and says what is proved). Conditions: none.
-/
import Derived.Test.YtgekfemnjphmbaaGreatM2
import Derived.ChangeKeysEq
import Derived.ChangeSame
import Derived.ChangeSlices
import Derived.JoinedOf
import Derived.JoinedAt
import Derived.RowKit3
import Derived.Lib.SliceRun
set_option linter.all false
set_option maxRecDepth 100000
/-
A function keeps its promise.
-/
namespace Go.Proofs.YtgekfemnjphmbaaGreat
namespace V
section

def IC (s:Nat):List Nat→Nat→Option Nat
 | [],_=>none
 | a::r,k=>if a=s then some k else IC s r (k+1)

theorem AG {s:Nat}:∀ {l:List Nat} {k j:Nat},IC s l k=some j→k≤j∧l[j - k]? =some s
 | [],k,j,h=>by cases h
 | a::r,k,j,h=>by
  simp only [IC] at h
  split at h
  ·rename_i e
   simp only [Option.some.injEq] at h
   subst h
   exact ⟨Nat.le_refl _,by simp [e]⟩
  ·obtain ⟨h1,h2⟩:=AG h
   refine ⟨by omega,?_⟩
   rw [show j - k=(j - (k+1))+1 from by omega,List.getElem?_cons_succ]
   exact h2

theorem Gy {s:Nat}:∀ {l:List Nat} {k j:Nat},eM l=true→l[j]? =some s→IC s l k=some (k+j)
 | [],k,j,_,h=>by simp at h
 | a::r,k,j,hd,h=>by
  simp only [eM,Bool.and_eq_true,Bool.not_eq_true'] at hd
  simp only [IC]
  cases j with
  | zero=>
   simp only [List.getElem?_cons_zero,Option.some.injEq] at h
   rw [if_pos h];rfl
  | succ j=>
   simp only [List.getElem?_cons_succ] at h
   have hne:a≠s:=fun e=>by
    have:=List.any_eq_false.1 hd.1 s (List.mem_of_getElem? h)
    rw [e] at this
    exact this (Nat.beq_refl _)
   rw [if_neg hne,Gy hd.2 h]
   congr 1;omega

def Ea (l:List Nat)(own:Own):Own:=fun g=>(own g).bind fun i=>(IC i.leaf.1 l 0).map fun k=>{i with leaf:=(k,i.leaf.2) }

section
variable {cx:Cx}{own:Own}{w:World}{l:List Nat}

theorem oY {g:Nat}{j:OI}(h:Ea l own g=some j):∃ i,own g=some i∧IC i.leaf.1 l 0=some j.leaf.1∧j={i with leaf:=(j.leaf.1,i.leaf.2) }:=by
 unfold Ea at h
 cases ho:own g with
 | none=>rw [ho] at h;cases h
 | some i=>
  rw [ho] at h
  simp only [Option.bind_some] at h
  cases hp:IC i.leaf.1 l 0 with
  | none=>rw [hp] at h;cases h
  | some k=>
   rw [hp] at h
   simp only [Option.map_some,Option.some.injEq] at h
   subst h
   exact ⟨i,rfl,hp,rfl⟩

theorem xS {g o:Nat}(h:claimed (Ea l own) g o):claimed own g o:=by
 obtain ⟨j,b,h1,h2,h3⟩:=h
 obtain ⟨i,h4,_,h5⟩:=oY h1
 rw [h5] at h2
 exact ⟨i,b,h4,h2,h3⟩

theorem Ue {g:Nat}(h:own g=none):Ea l own g=none:=by unfold Ea;rw [h];rfl

theorem XU {s k j:Nat}(hk:IC s l 0=some k){c:CS}{d:D}{v:Value}(hna:oN c=true)(h:aS w cx own s j c d v):aS w cx (Ea l own) k j c d v:=by
 refine ⟨h.1,?_⟩
 have h2:=h.2
 have hrs:∀ {d:D} {v:Value},Rep w (RS cx own) d v→Rep w (RS cx (Ea l own)) d v:=fun hr=>hr.sub fun g o hs=>⟨Ue hs.1,hs.2⟩
 cases c with
 | n=>exact h2
 | s=>exact h2
 | r=>exact hrs h2
 | b=>exact Rep.sub h2 fun g o hs=>⟨fun hc=>hs.1 (xS hc),hs.2⟩
 | x=>trivial
 | al _ _ _ _=>cases hna
 | o m f=>
  refine OwnRep.relab2 h2 (fun g i hi hl=>?_) (fun d v hr=>hrs hr)
  unfold Ea
  rw [hi]
  have e1:i.leaf.1=s:=by rw [hl]
  have e2:i.leaf.2=j+1:=by rw [hl]
  simp [e1,e2,hk]

theorem BF {s k:Nat}(hk:IC s l 0=some k){cs:List CS}{ds:List D}{vs:List Value}(hna:cs.all oN=true)(h:All3 (aS w cx own s) cs ds vs):All3 (aS w cx (Ea l own) k) cs ds vs:=
 ⟨h.1,h.2.1,fun i c d v hc hd hv=>XU hk (List.all_eq_true.1 hna c (List.mem_of_getElem? hc)) (h.2.2 i c d v hc hd hv)⟩

end

def aB8 (w:World)(cx:Cx)(own:Own)(env:Env)(s:Nat)(p:PSh)(v:Value):Prop:=
 match p with
 | .v ag ws=>∃ vs,v=wrapV ag vs∧(ag=false→vs.length=1)∧All3 (aS w cx own s) ws (env s) vs
 | .nbox ws=>∃ (g:Nat) (cur:Array Value) (T:TypeId),v= .pointer (some ⟨g,0,none⟩)∧w.heap[g]? =some (Obj.cells cur T (0,0))∧All3 (aS w cx own s) ws (env s) cur.toList∧own g=some ⟨(s,0),[],some 0⟩
 | _=>False

def BG (tmps:Array Value)(r:ResultVar):Sem Value:=
 match r with
 | .tmp t=>pure (tmps.getD t undef)
 | .cell a t=>do loadVar t (←asAddr (tmps.getD a undef))

section
variable {P:Program}{C:Cfg}{W:Wld}{T0:Nat→Value}{w0:World}{own0:Own}{cx:Cx}{own:Own}{w:World}{env:Env}{a:Act}{L:Look}

theorem Ks (hC:CfgOk P C){r:ResultVar}{p:PSh}{s:Nat}{T:St}(h:Li C L r p=some (s,T))(hT:∀ q∈T,SlotOk w cx own env (tvA a) q.1 q.2):
  ∃ v,(BG a.tmps r).run P w= .ok v w∧aB8 w cx own env s p v:=by
 unfold Li at h
 split at h
 ·rename_i s' ag ws
  simp only [Option.some.injEq,Prod.mk.injEq] at h
  obtain ⟨rfl,rfl⟩:=h
  obtain ⟨vs,h1,h2,h3⟩:=hT _ (List.mem_singleton.2 rfl)
  exact ⟨tvA a s',rfl,vs,h1,h2,h3⟩
 ·rename_i s' t ag ws
  split at h
  ·rename_i ti hti
   split at h
   ·rename_i hk
    simp only [Bool.and_eq_true,bC,dY] at hk
    simp only [Option.some.injEq,Prod.mk.injEq] at h
    obtain ⟨rfl,rfl⟩:=h
    obtain ⟨g,cur,Ty,h1,h2,h3,h4⟩:=hT _ (List.mem_singleton.2 rfl)
    have hty:=hC t ti hti
    have hl:cur.toList.length=ti.size:=by rw [h3.2.1,←h3.1];exact hk.2
    refine ⟨wrapV ti.agg cur.toList,?_,cur.toList,by rw [hk.1],(fun e=>by rw [hl];exact hty.one (by rw [←hk.1];exact e)),h3⟩
    have:=DG hty w g 0 cur.toList hl (fun j v hv=>by
     rw [Nat.zero_add,bM h2]
     simpa using hv)
    unfold BG
    have e:a.tmps.getD s' undef= .pointer (some ⟨g,0,none⟩):=h1
    simp only [e,asAddr,Sem.run_bind,Sem.run_pure,Result.andThen_ok,this]
   ·cases h
  ·cases h
 ·rename_i s' ws
  split at h
  ·rename_i b he
   simp only [Option.some.injEq,Prod.mk.injEq] at h
   obtain ⟨rfl,rfl⟩:=h
   obtain ⟨g',k1,k2⟩:=hT (s',.pt b 0) (List.mem_cons_self ..)
   obtain ⟨g,cur,Ty,h1,h2,h3,h4⟩:=hT (b,.box false ws) (List.mem_cons_of_mem _ (List.mem_singleton.2 rfl))
   simp only [Bool.false_eq_true,if_false] at h4
   refine ⟨tvA a s',rfl,g,cur,Ty,?_,h2,h3,h4⟩
   rw [k2,←k1,h1]
  ·rename_i cs he
   simp only [Option.some.injEq,Prod.mk.injEq] at h
   obtain ⟨rfl,rfl⟩:=h
   obtain ⟨g,cur,Ty,h1,h2,h3,h4⟩:=hT _ (List.mem_singleton.2 rfl)
   simp only [Bool.false_eq_true,if_false] at h4
   exact ⟨tvA a s',rfl,g,cur,Ty,h1,h2,h3,h4⟩
  ·cases h
 ·cases h

theorem Kt (hC:CfgOk P C):∀ {rs:List ResultVar} {ps:List PSh} {l:List Nat} {T:St},sQ C L rs ps=some (l,T)→(∀ q∈T,SlotOk w cx own env (tvA a) q.1 q.2)→
  ∃ rv:List Value,rv.length=ps.length∧l.length=ps.length∧(rs.mapM (BG a.tmps)).run P w= .ok rv w∧∀ (k:Nat) (p:PSh),ps[k]? =some p→∃ s v,l[k]? =some s∧rv[k]? =some v∧aB8 w cx own env s p v
 | [],[],l,T,h,_=>by
  simp only [sQ,Option.some.injEq,Prod.mk.injEq] at h
  obtain ⟨rfl,rfl⟩:=h
  exact ⟨[],rfl,rfl,rfl,fun k p h=>by simp at h⟩
 | [],_::_,_,_,h,_=>by simp [sQ] at h
 | _::_,[],_,_,h,_=>by simp [sQ] at h
 | r::rs,p::ps,l,T,h,hT=>by
  simp only [sQ] at h
  split at h
  ·rename_i s S l' T' h1 h2
   simp only [Option.some.injEq,Prod.mk.injEq] at h
   obtain ⟨rfl,rfl⟩:=h
   obtain ⟨v,k1,k2⟩:=Ks hC h1 (fun q hq=>hT q (List.mem_append_left _ hq))
   obtain ⟨rv,m1,m2,m3,m4⟩:=Kt hC h2 (fun q hq=>hT q (List.mem_append_right _ hq))
   refine ⟨v::rv,by simp [m1],by simp [m2],?_,fun k p' hp=>?_⟩
   ·rw [List.mapM_cons]
    simp only [Sem.run_bind,k1,Result.andThen_ok,m3,Sem.run_pure]
   ·cases k with
    | zero=>
     simp only [List.getElem?_cons_zero,Option.some.injEq] at hp
     subst hp
     exact ⟨s,v,rfl,rfl,k2⟩
    | succ k=>exact m4 k p' (by simpa using hp)
  ·cases h

theorem ID:∀ {l:List (Nat×List CS)} {i k:Nat} {ws:List CS},l[i]? =some (k,ws)→(k,Sh.box false ws)∈HT l
 | [],i,k,ws,h=>by simp at h
 | (k0,ws0)::r,i,k,ws,h=>by
  simp only [HT]
  cases i with
  | zero=>
   simp only [List.getElem?_cons_zero,Option.some.injEq,Prod.mk.injEq] at h
   rw [h.1,h.2];exact List.mem_cons_self ..
  | succ i=>exact List.mem_cons_of_mem _ (ID (by simpa using h))

theorem FS {fn:Func}{tmps:Array Value}{rv:List Value}(h:(fn.results.toList.mapM (BG tmps)).run P w= .ok rv w):(results fn tmps).run P w= .ok (retV rv) w:=by
 have e:results fn tmps=(do let vs ←fn.results.mapM (BG tmps);pure (if h:vs.size=1 then vs[0] else .tuple vs)):=by
  unfold results
  congr 1
 rw [e,Array.mapM_eq_mapM_toList]
 simp only [Sem.run_bind,map_eq_pure_bind,h,Result.andThen_ok,Sem.run_pure]
 match rv with
 | []=>rfl
 | [v]=>rfl
 | v::u::r=>rfl

theorem XV (hC:CfgOk P C){own':Own}{w':World}{fn:Func}{sig:Sig}{S R:St}{l:List Nat}{vals:List Value}(h:wH C ⟨fn.results.toList,sig⟩ S=some (l,R))(hfine:sig.fine=true)(hN:Now C (tvL vals) w own cx R own' env a w')(hw:WOk w own cx own' w')
  (hpin:(boxPs sig.ps 0).all (fun p=>C.pin.any (Nat.beq p.1))=true):
  ∃ v,(results fn a.tmps).run P w'= .ok v w'∧∃ own2,WOk w own cx own2 w'∧AA w' cx own2 sig (l.map env) vals v:=by
 unfold wH at h
 split at h
 ·rename_i l0 T hres
  dsimp only at h
  split at h
  ·rename_i hc
   simp only [Option.some.injEq,Prod.mk.injEq] at h
   obtain ⟨rfl,rfl⟩:=h
   simp only [Bool.and_eq_true] at hc
   obtain ⟨hd,_⟩:=hc
   obtain ⟨rv,m1,m2,m3,m4⟩:=Kt (L:=look S) (w:=w') (cx:=cx) (own:=own') (env:=env) (a:=a) hC hres (fun q hq=>hN.inv q (List.mem_append_left _ hq))
   refine ⟨retV rv,FS m3,Ea (l0++(boxPs sig.ps 0).map (·.1)) own',⟨hw.kept,fun g j hj=>?_,hw.n,hw.s1,hw.s2,fun g o hg hcl=>hw.cl g o hg (xS hcl),fun g g' i j hi hj hl hp=>?_⟩,?_⟩
   ·obtain ⟨i,h1,_⟩:=oY hj
    exact hw.dom g i h1
   ·obtain ⟨i0,h1,h2,h3⟩:=oY hi
    obtain ⟨j0,k1,k2,k3⟩:=oY hj
    have e1:=AG h2
    have e2:=AG k2
    rw [hl] at e1
    rw [e1.2] at e2
    simp only [Option.some.injEq] at e2
    have e3:i0.leaf.2=j0.leaf.2:=by
     have a1:i.leaf.2=i0.leaf.2:=by rw [h3]
     have a2:j.leaf.2=j0.leaf.2:=by rw [k3]
     rw [←a1,←a2,hl]
    have e4:i0.path=j0.path:=by
     have a1:i.path=i0.path:=by rw [h3]
     have a2:j.path=j0.path:=by rw [k3]
     rw [←a1,←a2];exact hp
    exact hw.inj g g' i0 j0 h1 k1 (Prod.ext e2.2 e3) e4
   ·have hll:l0.length=sig.rs.length:=m2
    unfold AA
    rw [Sig.fine_io hfine]
    refine ⟨by simp [hll],rv,m1,rfl,fun k p hp=>?_,fun i b hb=>?_⟩
    ·obtain ⟨s,v,q1,q2,q3⟩:=m4 k p hp
     have hk0:(l0++(boxPs sig.ps 0).map (·.1))[k]? =some s:=by
      rw [List.getElem?_append_left (List.getElem?_eq_some_iff.1 q1).1];exact q1
     have hpos:=Gy (k:=0) hd hk0
     rw [Nat.zero_add] at hpos
     have henv:envL ((l0++(boxPs sig.ps 0).map (·.1)).map env) k=env s:=by
      unfold envL
      rw [List.getD_eq_getElem?_getD,List.getElem?_map,hk0];rfl
     have htv:tvL (rv++(boxPs sig.ps 0).map fun b=>tvL vals b.1) k=v:=by
      unfold tvL
      rw [List.getD_eq_getElem?_getD,List.getElem?_append_left (List.getElem?_eq_some_iff.1 q2).1,q2];rfl
     cases p with
     | v ag ws=>
      obtain ⟨vs,n1,n2,n3⟩:=q3
      exact ⟨vs,by rw [htv];exact n1,n2,by rw [henv];exact BF hpos (Sig.fine_rs hfine hp) n3⟩
     | nbox ws=>
      obtain ⟨g,cur,Ty,n1,n2,n3,n4⟩:=q3
      refine ⟨g,cur,Ty,by rw [htv];exact n1,n2,by rw [henv];exact BF hpos (Sig.fine_nb hfine hp) n3,?_⟩
      simp only [Bool.false_eq_true,if_false]
      unfold Ea
      rw [n4]
      simp [hpos]
     | _=>exact q3.elim
    ·obtain ⟨kb,ws⟩:=b
     have hk0:(l0++(boxPs sig.ps 0).map (·.1))[sig.rs.length+i]? =some kb:=by
      rw [List.getElem?_append_right (by omega),hll,Nat.add_sub_cancel_left,List.getElem?_map,hb];rfl
     have hpos:=Gy (k:=0) hd hk0
     rw [Nat.zero_add] at hpos
     obtain ⟨g,cur,Ty,n1,n2,n3,n4⟩:=hN.inv (kb,.box false ws) (List.mem_append_right _ (ID hb))
     simp only [Bool.false_eq_true,if_false] at n4
     have henv:envL ((l0++(boxPs sig.ps 0).map (·.1)).map env) (sig.rs.length+i)=env kb:=by
      unfold envL
      rw [List.getD_eq_getElem?_getD,List.getElem?_map,hk0];rfl
     have htv:tvL (rv++(boxPs sig.ps 0).map fun b=>tvL vals b.1) (sig.rs.length+i)=tvL vals kb:=by
      conv=>lhs;unfold tvL
      rw [List.getD_eq_getElem?_getD,List.getElem?_append_right (by omega),m1,Nat.add_sub_cancel_left,List.getElem?_map,hb];rfl
     have hpk:=hN.pin kb (List.all_eq_true.1 hpin _ (List.mem_of_getElem? hb))
     refine ⟨g,cur,Ty,by rw [htv,←hpk];exact n1,n2,by rw [henv];exact BF hpos (Sig.fine_box hfine (wM hb)) n3,?_⟩
     simp only [Bool.false_eq_true,if_false]
     unfold Ea
     rw [n4]
     simp [hpos]
  ·cases h
 ·cases h

def aL (outs:List (List D)):PX→Env→Prop
 | .ret vs,_=>vs=outs
 | _,_=>False

theorem aJ (hC:CfgOk P C)(hE:EqOk P C)(hm:P.follows .mixedOrders=true){f:Nat}{fn:Func}(hf:P.funcs[f]? =some fn)(hname:(fn.name=="runtime.NumGoroutine")=false){sig:Sig}{pc:PC}(hfine:sig.fine=true)
  (hc:aR C fn sig=some pc){ins outs:List (List D)}(hp:pwp (FunOk P W) pc (aL outs) (envL ins)):FunOk P W f sig ins outs:=by
 unfold aR at hc
 split at hc
 ·cases hc
 rename_i hk
 simp only [Bool.and_eq_true,dY] at hk
 obtain ⟨⟨hn,hnp⟩,hpin⟩:=hk
 split at hc
 ·cases hc
 rename_i c hbody
 refine ⟨⟨fn,hf,hname,by rw [hbody];rfl⟩,fun w own cx vals hP hw hlow hvl hil hinv=>?_⟩
 have X:Ctx P C W w own (FunOk P W):=⟨hC,hE,fun _ _ _ _ h=>h,hP,fun g i hi=>(hlow g i hi).1,hm⟩
 let a0:Act:={tmps:=vals.toArray++Array.replicate (fn.ntmps - vals.toArray.size) undef,defers:=[] }
 have htv:tvA a0=tvL vals:=by
  funext k
  show (vals.toArray++Array.replicate (fn.ntmps - vals.toArray.size) undef).getD k undef=vals.getD k undef
  rw [Array.getD_eq_getD_getElem?,List.getD_eq_getElem?_getD]
  by_cases hk:k<vals.length
  ·rw [Array.getElem?_append_left (by simpa using hk)]
   simp
  ·rw [Array.getElem?_append_right (by simpa using hk),List.getElem?_eq_none (by omega),Array.getElem?_replicate]
   split<;>rfl
 have hsz:a0.tmps.size=C.n:=by
  show (vals.toArray++Array.replicate (fn.ntmps - vals.toArray.size) undef).size=C.n
  have:sig.ps.length≤C.n:=Nat.le_of_ble_eq_true hnp
  simp
  omega
 have hN:Now C (tvL vals) w own cx (rQ sig) own (envL ins) a0 w:=⟨hw,by rw [htv];exact hinv,hsz,rfl,fun k _=>by rw [htv]⟩
 refine calls_of_wp hf hbody ?_
 split at hc
 ·cases hc
 rename_i r hr
 have fin:∀ {S R:St} {l:List Nat} {own':Own} {env:Env} {a:Act} {w':World},wH C ⟨fn.results.toList,sig⟩ S=some (l,R)→Now C (tvL vals) w own cx R own' env a w'→aL outs (.ret (l.map env)) env→
   a.defers=[]∧∃ v,(results fn a.tmps).run P w'= .ok v w'∧(fun e w'=>∃ v own',e= .returned v∧WOk w own cx own' w'∧AA w' cx own' sig outs vals v) (Ending.returned v) w':=by
  intro S R l own' env a w' h1 h2 h3
  obtain ⟨v,k1,own2,k2,k3⟩:=XV hC h1 hfine h2 h2.wok hpin
  have h3':l.map env=outs:=h3
  rw [h3'] at k3
  exact ⟨h2.defers,v,k1,v,own2,rfl,k2,k3⟩
 split at hc
 ·rename_i ho
  simp only [Option.some.injEq] at hc
  subst hc
  refine wp_mono (rZ X hr hN hp) (fun e a w' h=>?_)
  cases e with
  | normal=>
   obtain ⟨T,_,_,q1,_⟩:=h
   rw [ho] at q1;cases q1
  | ret=>
   obtain ⟨S,l,R,own',env,q1,q2,q3⟩:=h
   exact fin q1 q2 q3
  | exit id=>
   obtain ⟨T,own',env,_,_,q3⟩:=h
   exact q3.elim
  | _=>exact h.elim
 ·rename_i S ho
  split at hc
  ·rename_i l R hrs
   simp only [Option.some.injEq] at hc
   subst hc
   refine wp_mono (rZ X hr hN hp) (fun e a w' h=>?_)
   cases e with
   | normal=>
    obtain ⟨T,own',env,q1,q2,q3⟩:=h
    rw [ho] at q1
    simp only [Option.some.injEq] at q1
    subst q1
    have hle:WW S R=true:=by
     unfold wH at hrs
     split at hrs
     ·dsimp only at hrs
      split at hrs
      ·rename_i hcc
       simp only [Bool.and_eq_true] at hcc
       simp only [Option.some.injEq,Prod.mk.injEq] at hrs
       rw [←hrs.2]
       exact hcc.2
      ·cases hrs
     ·cases hrs
    obtain ⟨own2,hN2⟩:=Gx hle q2
    exact fin hrs hN2 q3
   | ret=>
    obtain ⟨S,l,R,own',env,q1,q2,q3⟩:=h
    exact fin q1 q2 q3
   | exit id=>
    obtain ⟨T,own',env,_,_,q3⟩:=h
    exact q3.elim
   | _=>exact h.elim
  ·cases hc

end

end
section

def aE4 {α:Type}(o:Option α)(K:α→Prop):Prop:=match o with | some a=>K a | none=>False

def aDa (Φ:Ask)(p:PS)(K:Env→Prop)(e:Env):Prop:=∃ e',cG Φ p e e'∧K e'
def runs (Φ:Ask)(ps:List PS)(K:Env→Prop)(e:Env):Prop:=∃ e',qB Φ ps e e'∧K e'

section
variable {Φ:Ask}{K:Env→Prop}{e:Env}{Q:PX→Env→Prop}

theorem run_pure {p:PS}(h:HL p=true):aDa Φ p K e=aE4 (pstep p e) K:=by
 have:∀ e',cG Φ p e e'↔pstep p e=some e':=fun e'=>by cases p<;>first | exact Iff.rfl | cases h
 simp only [aDa,this,eq_iff_iff]
 constructor
 ·rintro ⟨e',h1,h2⟩;rw [h1];exact h2
 ·intro h
  cases hp:pstep p e with
  | none=>rw [hp] at h;exact h.elim
  | some e'=>rw [hp] at h;exact ⟨e',rfl,h⟩

def Zc (neg:Bool):List D→List D→Option (List D)
 | [.bool a],[.bool b]=>some [.bool ((a==b) != neg)]
 | _,_=>none
@[go_sem] theorem aFy (s off h i:Nat) (x:Opd):aDa Φ (.els s off h i x) K e=aE4 (pstep (.els s off h i x) e) K:=run_pure rfl
def callP (Φ:Ask)(f:Nat)(sig:Sig)(ins:List (List D))(nb:Nat)(K:List (List D)→List (List D)→Prop):Prop:=
 ∃ rs xs,Φ f sig ins (rs++xs)∧rs.length=sig.rs.length∧xs.length=nb∧K rs xs

theorem aB9 {f:Nat}{sig:Sig}{ins:List (List D)}{r:List D}{K:List (List D)→List (List D)→Prop}(h:Φ f sig ins [r])(h1:1=sig.rs.length)(hK:K [r] []):callP Φ f sig ins 0 K:=
 ⟨[r],[],h,h1,rfl,hK⟩

def callcP (Φ:Ask)(f:Nat)(sig:Sig)(fn:List D)(args:List (List D))(K:List (List D)→Prop):Prop:=
 ∃ fs cs rs,fn=[.fn f fs cs]∧fs.length+args.length+cs.length=sig.ps.length∧cs.length=ND sig.ps∧kX (sig.ps.take fs.length) fs=true∧nK (sig.ps.drop (fs.length+args.length)) cs=true∧
   Φ f sig (fs.map (·.2)++args++cs) rs∧rs.length=sig.rs.length∧K rs

end

@[go_sem] theorem Eb (a:List D) (l:List (List D)) (k:Nat):envL (a::l) k=if k=0 then a else envL l (k - 1):=by
 cases k<;>rfl
@[go_sem] theorem Nj (k:Nat):envL [] k=[]:=rfl
attribute [go_sem] Opd.get iZ DA CI cA oW

theorem gK {Φ:Ask}:∀ (c:PC) (Q Q':PX→Env→Prop),(∀ x e,Q x e→Q' x e)→∀ e,pwp Φ c Q e→pwp Φ c Q' e:=by
 intro c
 induction c with
 | skip=>intro Q Q' hq e h;exact hq _ _ h
 | fail=>intro Q Q' hq e h;exact h
 | ss ps=>intro Q Q' hq e h;obtain ⟨e',h1,h2⟩:=h;exact ⟨e',h1,hq _ _ h2⟩
 | seq a b iha ihb=>
  intro Q Q' hq e h
  refine iha _ _ (fun x e hx=>?_) e h
  cases x with
  | normal=>exact ihb _ _ hq e hx
  | exit i=>exact hq _ _ hx
  | ret v=>exact hq _ _ hx
 | cond c a b iha ihb=>
  intro Q Q' hq e h
  rcases h with ⟨h1,h2⟩ | ⟨h1,h2⟩
  ·exact .inl ⟨h1,iha _ _ hq e h2⟩
  ·exact .inr ⟨h1,ihb _ _ hq e h2⟩
 | block id a iha=>
  intro Q Q' hq e h
  refine iha _ _ (fun x e hx=>?_) e h
  cases x with
  | normal=>exact hq _ _ hx
  | exit i=>
   simp only [PX.inBlock] at hx ⊢
   split<;>rename_i hi
   ·rw [if_pos hi] at hx;exact hq _ _ hx
   ·rw [if_neg hi] at hx;exact hq _ _ hx
  | ret v=>exact hq _ _ hx
 | loop a iha=>
  intro Q Q' hq e h
  obtain ⟨n,hn⟩:=h
  refine ⟨n,?_⟩
  revert e
  induction n with
  | zero=>intro e h;exact h
  | succ n ih=>
   intro e h
   refine iha _ _ (fun x e hx=>?_) e h
   cases x with
   | normal=>exact ih e hx
   | exit i=>exact hq _ _ hx
   | ret v=>exact hq _ _ hx
 | exit id=>intro Q Q' hq e h;exact hq _ _ h
 | ret rs=>intro Q Q' hq e h;exact hq _ _ h

theorem Nk {Φ:Ask}{a:PC}{Q:PX→Env→Prop}{e:Env}(I:Nat→Env→Prop)(n:Nat)(h0:I n e)(h:∀ n e,I n e→pwp Φ a (PX.then (fun e'=>∃ m,m<n∧I m e') Q) e):pwp Φ (.loop a) Q e:=by
 have mono:=@gK Φ
 have key:∀ n e,I n e→∀ k,n<k→Ly Φ a Q k e:=by
  intro n
  induction n using Nat.strongRecOn with
  | _ n ih=>
   intro e hI k hk
   match k,hk with
   | k+1,hk=>
    refine mono a _ _ (fun x e hx=>?_) e (h n e hI)
    cases x with
    | normal=>
     obtain ⟨m,hm,hI'⟩:=hx
     exact ih m hm e hI' k (by omega)
    | exit i=>exact hx
    | ret v=>exact hx
 exact ⟨n+1,key n e h0 (n+1) (Nat.lt_succ_self n)⟩

end
section

def Zd (P:Program)(t:Nat)(z:D):Bool:=match z,P.underlying t with
 | .int _ _,some (.int _)=>true
 | .bool _,some .bool=>true
 | .str _,some .string=>true
 | _,_=>false

def Ku (P:Program):Nat→List Field→List D→Bool
 | _,[],[]=>true
 | i,f::fs,z::zs=>f.name != "_" &&f.offset==i&&P.plainKey f.type&&Zd P f.type z&&Ku P (i+1) fs zs
 | _,_,_=>false

def TZ (P:Program)(t:Nat)(zs:List D):Bool:=
 P.eqGuardType P.depth t==false&&P.stoodInHeld t==false&&(match P.underlying t with | some (.struct fs)=>Ku P 0 fs.toList zs | _=>false)

section
variable {P:Program}

theorem aDb {w:World}{t:Nat}{z x y:D}{v u:Value}(hu:Zd P t z=true)(hx:fits [z] [x]=true)(hy:fits [z] [y]=true)(sx:Scal x v)(sy:Scal y u):(Op.equalIn 9999 t v u).run P w= .ok (aT x y) w:=by
 cases z with
 | int j n=>
  cases sx<;>simp [fits] at hx
  cases sy<;>simp [fits] at hy
  subst hx
  cases hT:P.underlying t with
  | none=>simp [Zd,hT] at hu
  | some T=>
   cases T<;>simp [Zd,hT] at hu
   rw [←hy,run_equalIn_int w 9998 t _ _ _ _ hT]
   simp [aT]
 | bool b=>
  cases sx<;>simp [fits] at hx
  cases sy<;>simp [fits] at hy
  cases hT:P.underlying t with
  | none=>simp [Zd,hT] at hu
  | some T=>
   cases T<;>simp [Zd,hT] at hu
   rw [run_equalIn_bool' w 9998 t _ _ hT]
   simp [aT]
 | str s=>
  cases sx<;>simp [fits] at hx
  cases sy<;>simp [fits] at hy
  cases hT:P.underlying t with
  | none=>simp [Zd,hT] at hu
  | some T=>
   cases T<;>simp [Zd,hT] at hu
   rw [run_equalIn_string w 9998 t _ _ hT]
   simp [aT]
 | _=>simp [Zd] at hu

theorem FT {w:World}:∀ (fs:List Field) (zs:List D) (i:Nat) (xs ys:List D) (vs us:List Value),Ku P i fs zs=true→fits zs xs=true→fits zs ys=true→
  (∀ (j:Nat) (d:D),xs[j]? =some d→∃ v,vs[i+j]? =some v∧Scal d v)→(∀ (j:Nat) (d:D),ys[j]? =some d→∃ v,us[i+j]? =some v∧Scal d v)→
  (Op.eqFields 9999 vs.toArray us.toArray fs).run P w= .ok (eqDs xs ys) w
 | [],[],i,xs,ys,vs,us,_,hx,hy,_,_=>by
  cases xs<;>simp [fits] at hx
  cases ys<;>simp [fits] at hy
  simp [Op.eqFields,eqDs]
 | [],_::_,_,_,_,_,_,h,_,_,_,_=>by simp [Ku] at h
 | _::_,[],_,_,_,_,_,h,_,_,_,_=>by simp [Ku] at h
 | f::fs,z::zs,i,xs,ys,vs,us,h,hx,hy,sx,sy=>by
  cases xs with
  | nil=>simp [fits] at hx
  | cons x xs=>
  cases ys with
  | nil=>simp [fits] at hy
  | cons y ys=>
  simp only [fits,Bool.and_eq_true] at hx hy
  simp only [Ku,Bool.and_eq_true] at h
  obtain ⟨⟨⟨⟨h1,h2⟩,h3⟩,h4⟩,h5⟩:=h
  obtain ⟨v,hv,Sv⟩:=sx 0 x rfl
  obtain ⟨u,hu,Su⟩:=sy 0 y rfl
  have e2:f.offset=i:=by simpa using h2
  have hn:f.name≠"_" :=by simpa using h1
  have pv:=run_part_plain w h3 (xs:=vs.toArray) (off:=f.offset) (v:=v) (by rw [e2];simpa using hv)
  have pu:=run_part_plain w h3 (xs:=us.toArray) (off:=f.offset) (v:=u) (by rw [e2];simpa using hu)
  have q:=aDb (w:=w) (P:=P) (t:=f.type) (z:=z) h4 (by simp only [fits,hx.1,Bool.true_and]) (by simp only [fits,hy.1,Bool.true_and]) Sv Su
  have rest:=FT (w:=w) fs zs (i+1) xs ys vs us h5 hx.2 hy.2 (fun j d hj=>by
   obtain ⟨v,a,b⟩:=sx (j+1) d (by simpa using hj)
   exact ⟨v,by rw [←a];congr 1;omega,b⟩) (fun j d hj=>by
   obtain ⟨v,a,b⟩:=sy (j+1) d (by simpa using hj)
   exact ⟨v,by rw [←a];congr 1;omega,b⟩)
  simp only [Op.eqFields,if_pos hn,Sem.run_bind,pv,pu,q,Result.andThen_ok,Sem.run_ite,eqDs]
  cases aT x y
  ·simp
  ·simp [rest]

theorem XW {t:Nat}{zs:List D}(h:TZ P t zs=true):EqTy P t zs:=by
 simp only [TZ,Bool.and_eq_true,beq_iff_eq] at h
 obtain ⟨⟨hg,hp⟩,h⟩:=h
 refine ⟨hg,?_⟩
 intro w xs ys vs us fx fy lx ly sx sy
 cases hT:P.underlying t with
 | none=>simp [hT] at h
 | some T=>
  cases T with
  | struct fs=>
   simp only [hT] at h
   have hf:P.fieldsOf t=fs:=by simp [Program.fieldsOf,hT]
   rw [show (10000:Nat)=9999+1 from rfl,run_equalIn_agg w 9999 t _ _ (by rw [hf];exact hT) hp,hf]
   refine FT fs.toList zs 0 xs ys vs us h fx fy (fun j d hj=>?_) (fun j d hj=>?_)
   ·have:=(List.getElem?_eq_some_iff.1 hj).1
    have hv:vs[j]? =some vs[j]:=List.getElem?_eq_getElem (by omega)
    exact ⟨_,by simpa using hv,sx j d _ hj hv⟩
   ·have:=(List.getElem?_eq_some_iff.1 hj).1
    have hv:us[j]? =some us[j]:=List.getElem?_eq_getElem (by omega)
    exact ⟨_,by simpa using hv,sy j d _ hj hv⟩
  | _=>simp [hT] at h

theorem Ze {C:Cfg}(h:C.eqt.all (fun t=>match C.ty t with | some ti=>TZ P t ti.zero | none=>true)=true):EqOk P C:=fun t ti ht hti=>by
 have h2:=List.all_eq_true.1 h t (by
  obtain ⟨x,hx,e⟩:=List.any_eq_true.1 ht
  rw [Nat.eq_of_beq_eq_true e];exact hx)
 simp only [hti] at h2
 exact XW h2
end
end
section

abbrev i64 (n:Int):List D:=[.int .i64 n]
abbrev bo (b:Bool):List D:=[.bool b]

abbrev Sl:=List (Nat×List D)

noncomputable def lk (l:Sl)(e:Env)(s:Nat):List D:=
 List.rec (motive:=fun _=>List D) (e s) (fun p _ ih=>match Nat.beq s p.1 with | true=>p.2 | false=>ih) l
theorem Zf (e:Env)(s:Nat):lk [] e s=e s:=rfl
theorem IE (d:Nat)(c:List D)(l:Sl)(e:Env)(s:Nat):lk ((d,c)::l) e s=match Nat.beq s d with | true=>c | false=>lk l e s:=rfl

noncomputable def og (l:Sl)(e:Env):Opd→List D
 | .t s=>lk l e s
 | .c d=>[d]

theorem sA (d:Nat)(c:List D)(l:Sl)(e:Env):lk ((d,c)::l) e=put (lk l e) d c:=by
 funext s
 simp only [IE,put]
 cases h:Nat.beq s d with
 | true=>rw [if_pos (Nat.eq_of_beq_eq_true h)]
 | false=>rw [if_neg (fun k=>by rw [k,Nat.beq_refl] at h;cases h)]
theorem gV (l:Sl)(e:Env)(x:Opd):og l e x=x.get (lk l e):=by cases x<;>rfl

def QX (b:Bool)(x y:Prop):Prop:=match b with | true=>x | false=>y
theorem eP {b:Bool}{x y:Prop}(h1:b=true→x)(h2:b=false→y):QX b x y:=by
 cases b
 ·exact h2 rfl
 ·exact h1 rfl

structure Need (p k:Prop):Prop where
 p:p
 k:k

def oO:D→Int
 | .int _ n=>n
 | _=>0
def Ta:D→Bool
 | .bool b=>b
 | _=>false
def aE5:D→ByteArray
 | .str s=>s
 | _=>ByteArray.empty
def QY:D→List (List D)
 | .sl l=>l
 | _=>[]
def Bk (xs:List (List D))(i:Int)(j:Nat):D:=(xs.getD i.toNat []).getD j .bad
def cI (xs:List (List D))(i:Int)(j:Nat):Int:=oO (Bk xs i j)
def cB (xs:List (List D))(i:Int)(j:Nat):Bool:=Ta (Bk xs i j)
def cS (xs:List (List D))(i:Int)(j:Nat):ByteArray:=aE5 (Bk xs i j)
def cL (xs:List (List D))(i:Int)(j:Nat):List (List D):=QY (Bk xs i j)

def rd1 (xs:List (List D))(i:Int)(j:Nat):D→D
 | .int k _=> .int k (cI xs i j)
 | .bool _=> .bool (cB xs i j)
 | .str _=> .str (cS xs i j)
 | .sl _=> .sl (cL xs i j)
 | z=>z
noncomputable def rd (xs:List (List D))(i:Int)(j:Nat)(zs:List D):List D:=
 List.rec (motive:=fun _=>Nat→List D) (fun _=>[]) (fun z _ ih j=>rd1 xs i j z::ih (Nat.succ j)) zs j
theorem aDc (xs:List (List D))(i:Int)(j:Nat):rd xs i j []=[]:=rfl
theorem Zg (xs:List (List D))(i:Int)(j:Nat)(z:D)(zs:List D):rd xs i j (z::zs)=rd1 xs i j z::rd xs i (j+1) zs:=rfl

theorem aDd {xs:List (List D)}{i:Int}{j:Nat}{z y:D}(hy:Bk xs i j=y)(h:uQ [z] [y]=true):y=rd1 xs i j z:=by
 simp only [uQ,Bool.and_true] at h
 cases z<;>cases y<;>simp only [Bool.false_eq_true,reduceCtorEq] at h<;>first
  | (simp only [rd1,cB,cS,cL,hy,Ta,aE5,QY];done)
  | (rw [beq_iff_eq] at h;subst h;simp only [rd1,cI,hy,oO])

def XX (xs:List (List D))(i:Int)(off:Nat)(zs:List D):Prop:=
 ∃ x,xs[i.toNat]? =some x∧off+zs.length≤x.length∧uQ zs ((x.drop off).take zs.length)=true
def XY (xs:List (List D))(i:Int)(sz:Nat):Prop:=0≤i∧∃ x,xs[i.toNat]? =some x∧x.length=sz
def Kv (sz:Nat)(sc:Bool)(xs ys:List (List D)):Prop:=xs.length+ys.length≤lim∧(∀ x∈xs++ys,x.length=sz)∧(sc=true→∀ y∈ys,y.all oW=true)

theorem XZ {xs:List (List D)}{i:Int}{x:List D}(hx:xs[i.toNat]? =some x):∀ (zs:List D) (off:Nat),off+zs.length≤x.length→uQ zs ((x.drop off).take zs.length)=true→(x.drop off).take zs.length=rd xs i off zs
 | [],off,_,_=>by simp [aDc]
 | z::zs,off,hl,hk=>by
  simp only [List.length_cons] at hl hk ⊢
  have ho:off<x.length:=by omega
  have hd:x.drop off=x[off]::x.drop (off+1):=List.drop_eq_getElem_cons ho
  rw [hd,List.take_succ_cons] at hk ⊢
  simp only [uQ,Bool.and_eq_true] at hk
  have ih:=XZ hx zs (off+1) (by omega) hk.2
  have hc:Bk xs i off=x[off]:=by simp [Bk,List.getD,hx,ho]
  rw [ih,Zg,←aDd (z:=z) hc (by simp only [uQ,Bool.and_true];exact hk.1)]

def dstOf:PS→Nat
 | .nop=>0
 | .mv d _=>d
 | .sub d _ _ _=>d
 | .bld d _ _=>d
 | .lit d _ _ _=>d
 | .mk d _ _ _=>d
 | .st b _ _=>b
 | .bin d _ _ _=>d
 | .un d _ _=>d
 | .beq d _ _ _=>d
 | .eqs d _ _ _ _=>d
 | .pick d _ _ _=>d
 | .elp d _ _ _=>d
 | .eld d _ _ _=>d
 | .els _ _ h _ _=>h
 | .bxp d _ _=>d
 | .bxl d _ _ _ _ _=>d
 | .bxs _ b _ _ _=>b
 | .len d _=>d
 | .slen d _=>d
 | .sidx d _ _=>d
 | .ssl d _ _ _=>d
 | .lsl d _ _ _ _ _=>d
 | .app d _ _ _ _=>d
 | .cvt d _ _=>d
 | .s2b d _=>d
 | .b2s d _=>d
 | .ext d _ _ _=>d
 | .min d _ _=>d
 | .i2s d _=>d
 | .fn d _ _ _=>d
 | .callc d _ _ _ _=>d
 | .call d _ _ _ _=>d
 | .ioc d _ _ _ _ _ _ _=>d
 | .g _ _ d _=>d

structure Fb (p:PS) (l:Sl) (e:Env) (K:Sl→Prop):Prop where
 h:∃ c,pstep p (lk l e)=some (put (lk l e) (dstOf p) c)∧K ((dstOf p,c)::l)

structure CallQ (Φ:Ask) (f:Nat) (sig:Sig) (ins:List (List D)) (nb:Nat) (K:List (List D)→List (List D)→Prop):Prop where
 h:callP Φ f sig ins nb K
structure CallcQ (Φ:Ask) (f:Nat) (sig:Sig) (fn:List D) (args:List (List D)) (K:List (List D)→Prop):Prop where
 h:callcP Φ f sig fn args K

theorem kZ {Φ:Ask}{f:Nat}{sig:Sig}{ins:List (List D)}{r:List D}{K:List (List D)→List (List D)→Prop}(h:Φ f sig ins [r])(h1:1=sig.rs.length)(hK:K [r] []):CallQ Φ f sig ins 0 K:=⟨aB9 h h1 hK⟩
theorem AH {Φ:Ask}{f:Nat}{sig:Sig}{ins ins':List (List D)}{r:List D}{K:List (List D)→List (List D)→Prop}(h:Φ f sig ins' [r])(hi:ins=ins')(h1:1=sig.rs.length)(hK:K [r] []):CallQ Φ f sig ins 0 K:=⟨aB9 (hi▸h) h1 hK⟩
theorem Xa {Φ:Ask}{f:Nat}{sig:Sig}{ins rs:List (List D)}{K:List (List D)→List (List D)→Prop}(h:Φ f sig ins rs)(h1:rs.length=sig.rs.length)(hK:K rs []):CallQ Φ f sig ins 0 K:=⟨rs,[],by simpa using h,h1,rfl,hK⟩
noncomputable def Nl (l:Sl)(bs:List Nat)(cs:List (List D)):Sl:=
 List.rec (motive:=fun _=>List (List D)→Sl→Sl) (fun _ l=>l) (fun b _ ih cs l=>match cs with | []=>l | c::cs=>ih cs ((b,c)::l)) bs cs l
theorem QZ (l:Sl)(b:Nat)(bs:List Nat)(c:List D)(cs:List (List D)):Nl l (b::bs) (c::cs)=Nl ((b,c)::l) bs cs:=rfl
theorem Td (e:Env):∀ (bs:List Nat) (cs:List (List D)) (l:Sl),lk (Nl l bs cs) e=iZ (lk l e) bs cs
 | [],[],l=>rfl
 | [],_::_,l=>rfl
 | _::_,[],l=>rfl
 | b::bs,c::cs,l=>by rw [QZ,Td e bs cs,sA,iZ]

def okO (o:Option (List D))(K:List D→Prop):Prop:=match o with | some c=>K c | none=>False

noncomputable def Xb (l:Sl)(e:Env)(xs:List Opd):List (List D):=
 List.rec (motive:=fun _=>List (List D)) [] (fun x _ ih=>og l e x::ih) xs
theorem Uf (l:Sl)(e:Env)(x:Opd)(xs:List Opd):Xb l e (x::xs)=og l e x::Xb l e xs:=rfl
theorem Te (l:Sl)(e:Env)(xs:List Opd):Xb l e xs=xs.map (·.get (lk l e)):=by
 induction xs with
 | nil=>rfl
 | cons x xs ih=>rw [Uf,ih,gV];rfl
noncomputable def Nm (l:Sl)(e:Env)(xs:List Nat):List (List D):=
 List.rec (motive:=fun _=>List (List D)) [] (fun x _ ih=>lk l e x::ih) xs
theorem Qa (l:Sl)(e:Env)(x:Nat)(xs:List Nat):Nm l e (x::xs)=lk l e x::Nm l e xs:=rfl
theorem Xc (l:Sl)(e:Env)(xs:List Nat):Nm l e xs=xs.map (lk l e):=by
 induction xs with
 | nil=>rfl
 | cons x xs ih=>rw [Qa,ih];rfl

def fcD (d:D)(K:D→Prop):Prop:=
 match d with
 | .int k n=>K (.int k n)
 | .bool b=>K (.bool b)
 | .str s=>K (.str s)
 | .sl l=>K (.sl l)
 | d=>K d
noncomputable def fc (c:List D)(K:List D→Prop):Prop:=
 List.rec (motive:=fun _=>(List D→Prop)→Prop) (fun K=>K []) (fun d _ ih K=>fcD d fun d=>ih fun r=>K (d::r)) c K
noncomputable def Zh (cs:List (List D))(K:List (List D)→Prop):Prop:=
 List.rec (motive:=fun _=>(List (List D)→Prop)→Prop) (fun K=>K []) (fun c _ ih K=>fc c fun c=>ih fun r=>K (c::r)) cs K
theorem Zi (d:D)(r:List D)(K:List D→Prop):fc (d::r) K=fcD d fun d=>fc r fun r=>K (d::r):=rfl
theorem Xd (d:List D)(r:List (List D))(K:List (List D)→Prop):Zh (d::r) K=fc d fun d=>Zh r fun r=>K (d::r):=rfl
theorem aDe (d:D)(K:D→Prop):fcD d K=K d:=by cases d<;>rfl
theorem Tf:∀ (c:List D) (K:List D→Prop),fc c K=K c
 | [],K=>rfl
 | d::r,K=>by rw [Zi,aDe,Tf r]
theorem Ec:∀ (c:List (List D)) (K:List (List D)→Prop),Zh c K=K c
 | [],K=>rfl
 | d::r,K=>by rw [Xd,Tf,Ec r]

noncomputable def wr (d:Nat)(c:List D)(l:Sl)(K:Sl→Prop):Prop:=fc c fun c=>K ((d,c)::l)
theorem Xe (d:Nat)(c:List D)(l:Sl)(K:Sl→Prop):wr d c l K=K ((d,c)::l):=by rw [wr,Tf]
noncomputable def wrs (l:Sl)(bs:List Nat)(cs:List (List D))(K:Sl→Prop):Prop:=Zh cs fun cs=>K (Nl l bs cs)
theorem aDf (l:Sl)(bs:List Nat)(cs:List (List D))(K:Sl→Prop):wrs l bs cs K=K (Nl l bs cs):=by rw [wrs,Ec]

def Tg (xs ys:List (List D))(i:Int)(off:Nat)(c:List D):Prop:=∃ a b,xs[i.toNat]? =some a∧ys[i.toNat]? =some b∧a.length=b.length∧off+c.length≤b.length
def Ed (ys:List (List D))(i:Int)(off:Nat)(c:List D):List (List D):=ys.set i.toNat (cA (ys.getD i.toNat []) off c)
noncomputable def idI (l:Sl)(e:Env)(o:Option Opd)(dft:Int):Option Int:=
 match o with
 | none=>some dft
 | some x=>match og l e x with
  | [.int _ n]=>some n
  | _=>none
theorem Xf {l:Sl}{e:Env}{o:Option Opd}{dft:Nat}{n:Int}(h:idI l e o dft=some n)(h0:0≤n):EM (lk l e) o dft=some n.toNat:=by
 unfold idI at h
 unfold EM
 cases o with
 | none=>cases h;rfl
 | some x=>
  dsimp only at h ⊢
  rw [←gV]
  split at h
  ·rename_i k m hm
   cases h
   rw [hm]
   dsimp only
   rw [if_pos h0]
  ·cases h
def aE7:Option Opd→Bool
 | none=>true
 | some _=>false
def Xg (sz:Nat)(xs:List (List D))(a b:Int):Prop:=0≤a∧a≤b∧b≤xs.length∧∀ x∈xs,x.length=sz

noncomputable def rH (Φ:Ask)(e:Env):PS→Sl→(Sl→Prop)→Prop
 | .nop,l,K=>K l
 | .mv d x,l,K=>wr d (og l e x) l K
 | .sub d s off n,l,K=>match Nat.ble (off+n) (lk l e s).length with
  | true=>wr d (((lk l e s).drop off).take n) l K
  | false=>False
 | .ext d s off n,l,K=>match Nat.ble (off+n) (lk l e s).length with
  | true=>wr d (((lk l e s).drop off).take n) l K
  | false=>False
 | .bld d z ps,l,K=>wr d (DA (lk l e) z ps) l K
 | .lit d n z ps,l,K=>Zh (CI (lk l e) (List.replicate n z) ps) fun xs=>K ((d,[.sl xs])::l)
 | .st b off x,l,K=>match Nat.ble (off+(og l e x).length) (lk l e b).length with
  | true=>wr b (cA (lk l e b) off (og l e x)) l K
  | false=>False
 | .bin d op x y,l,K=>okO (Jn (BR op) (og l e x) (og l e y)) fun c=>wr d c l K
 | .un d op x,l,K=>okO (one (unV op) (og l e x)) fun c=>wr d c l K
 | .beq d neg x y,l,K=>okO (Zc neg (og l e x) (og l e y)) fun c=>wr d c l K
 | .eqs d neg zs x y,l,K=>match fits zs (og l e x)&&fits zs (og l e y) with
  | true=>K ((d,[.bool (eqDs (og l e x) (og l e y) != neg)])::l)
  | false=>False
 | .pick d c a b,l,K=>match og l e c with
  | [.bool t]=>QX t (wr d (og l e a) l K) (wr d (og l e b) l K)
  | _=>False
 | .elp d x i sz,l,K=>match og l e x,og l e i with
  | [.sl xs],[.int k n]=>Need (XY xs n sz) (K ((d,[.sl xs,.int k n])::l))
  | _,_=>False
 | .eld d s off zs,l,K=>match lk l e s with
  | [.sl xs,.int _ n]=>Need (XX xs n off zs) (wr d (rd xs n off zs) l K)
  | _=>False
 | .len d x,l,K=>match og l e x with
  | [.sl xs]=>K ((d,[.int .i64 xs.length])::l)
  | _=>False
 | .app d sz sc x y,l,K=>match og l e x,og l e y with
  | [.sl xs],[.sl ys]=>Need (Kv sz sc xs ys) (K ((d,[.sl (xs++ys)])::l))
  | _,_=>False
 | .mk d z n c,l,K=>match og l e n,og l e c with
  | [.int _ k],[.int _ m]=>Need (0≤k∧k≤m∧m≤lim) (K ((d,[.sl (List.replicate k.toNat z)])::l))
  | _,_=>False
 | .cvt d k x,l,K=>match og l e x with
  | [.int _ n]=>K ((d,[.int k (k.wrap n)])::l)
  | _=>False
 | .g _ _ _ _,_,_=>False
 | .els s off h i x,l,K=>match lk l e s with
  | [.sl xs,.int _ k]=>match (lk l e h)[i]? with
   | some (.sl ys)=>fc (og l e x) fun c=>Need (Tg xs ys k off c) (wr h ((lk l e h).set i (.sl (Ed ys k off c))) l K)
   | _=>False
  | _=>False
 | .fn d g fs cs,l,K=>K ((d,[.fn g (fs.map fun p=>(p.1,p.2.get (lk l e))) (cs.map (lk l e))])::l)
 | .min d x y,l,K=>match og l e x,og l e y with
  | [.int k a],[.int k' b]=>match decide (k=k') with
   | true=>K ((d,[.int k (if b<a then b else a)])::l)
   | false=>False
  | _,_=>False
 | .bxp d i len,l,K=>match og l e i with
  | [.int k n]=>Need (0≤n∧n<len) (K ((d,[.int k n])::l))
  | _=>False
 | .lsl d sz x lo hi mx,l,K=>match og l e x with
  | [.sl xs]=>match idI l e lo 0,idI l e hi xs.length,aE7 mx with
   | some a,some b,true=>Need (Xg sz xs a b) (K ((d,[.sl ((xs.take b.toNat).drop a.toNat)])::l))
   | _,_,_=>False
  | _=>False
 | .call d f sig aas bs,l,K=>Zh (Xb l e aas) fun ins=>CallQ Φ f sig ins bs.length fun rs xs=>wrs l bs xs fun l=>wr d rs.flatten l K
 | .callc d s f sig aas,l,K=>Zh (Xb l e aas) fun ins=>CallcQ Φ f sig (lk l e s) ins fun rs=>wr d rs.flatten l K
 | p,l,K=>Fb p l e K

noncomputable def wqs (Φ:Ask)(e:Env):PS→Sl→(Sl→Prop)→Prop
 | .g s b d p,l,K=>match lk l e s with
  | [.bool v]=>QX v
    (match b with | true=>rH Φ e p ((s,[.bool true])::l) K | false=>K ((d,[])::(s,[.bool true])::l))
    (match b with | true=>K ((d,[])::(s,[.bool false])::l) | false=>rH Φ e p ((s,[.bool false])::l) K)
  | []=>K ((d,[])::l)
  | _=>False
 | p,l,K=>rH Φ e p l K

noncomputable def Zj (Φ:Ask)(e:Env)(ps:List PS)(l:Sl)(K:Sl→Prop):Prop:=
 List.rec (motive:=fun _=>Sl→Prop) (fun l=>K l) (fun p _ ih l=>wqs Φ e p l ih) ps l
theorem Ug (Φ:Ask)(e:Env)(p:PS)(ps:List PS)(l:Sl)(K:Sl→Prop):Zj Φ e (p::ps) l K=wqs Φ e p l fun l'=>Zj Φ e ps l' K:=rfl

theorem BH {l:Sl}{e:Env}{s:Nat}{c:List D}(h:lk l e s=c):lk ((s,c)::l) e=lk l e:=by
 rw [sA,←h]
 funext k
 simp only [put]
 split
 ·rename_i h;rw [h]
 ·rfl

theorem Lz {Φ:Ask}{e:Env}:∀ (p:PS) (l:Sl) (K:Sl→Prop),rH Φ e p l K→∃ l',cG Φ p (lk l e) (lk l' e)∧K l':=by
 have one:∀ (p:PS) (l:Sl) (K:Sl→Prop) (d:Nat) (c:List D),pstep p (lk l e)=some (put (lk l e) d c)→(cG Φ p (lk l e) (put (lk l e) d c)↔pstep p (lk l e)=some (put (lk l e) d c))→K ((d,c)::l)→∃ l',cG Φ p (lk l e) (lk l' e)∧K l':=
  fun p l K d c h hp hk=>⟨(d,c)::l,by rw [sA];exact hp.2 h,hk⟩
 have Jn:∀ (p:PS) (l:Sl) (K:Sl→Prop) (d:Nat) (c:List D),wr d c l K→pstep p (lk l e)=some (put (lk l e) d c)→(cG Φ p (lk l e) (put (lk l e) d c)↔pstep p (lk l e)=some (put (lk l e) d c))→∃ l',cG Φ p (lk l e) (lk l' e)∧K l':=
  fun p l K d c hk h hp=>one p l K d c h hp (by rwa [Xe] at hk)
 intro p
 induction p with
 | nop=>intro l K h;exact ⟨l,rfl,h⟩
 | mv d x=>intro l K h;exact Jn _ l K d _ h (by simp only [pstep,gV]) Iff.rfl
 | sub d s off n=>
  intro l K h
  simp only [rH] at h
  split at h
  ·rename_i hb
   exact Jn _ l K d _ h (by simp only [pstep];rw [if_pos (Nat.le_of_ble_eq_true hb)]) Iff.rfl
  ·exact h.elim
 | ext d s off n=>
  intro l K h
  simp only [rH] at h
  split at h
  ·rename_i hb
   exact Jn _ l K d _ h (by simp only [pstep];rw [if_pos (Nat.le_of_ble_eq_true hb)]) Iff.rfl
  ·exact h.elim
 | bld d z ps=>intro l K h;exact Jn _ l K d _ h rfl Iff.rfl
 | lit d n z ps=>intro l K h;simp only [rH,Ec] at h;exact one _ l K d _ rfl Iff.rfl h
 | st b off x=>
  intro l K h
  simp only [rH] at h
  split at h
  ·rename_i hb
   exact Jn _ l K b _ h (by simp only [pstep,←gV];rw [if_pos (Nat.le_of_ble_eq_true hb)]) Iff.rfl
  ·exact h.elim
 | bin d op x y=>
  intro l K h
  simp only [rH,okO] at h
  split at h
  ·rename_i c hc
   exact Jn _ l K d c h (by simp only [pstep,←gV,hc,Option.map_some]) Iff.rfl
  ·exact h.elim
 | un d op x=>
  intro l K h
  simp only [rH,okO] at h
  split at h
  ·rename_i c hc
   exact Jn _ l K d c h (by simp only [pstep,←gV,hc,Option.map_some]) Iff.rfl
  ·exact h.elim
 | beq d neg x y=>
  intro l K h
  simp only [rH,okO] at h
  split at h
  ·rename_i c hc
   refine Jn _ l K d c h ?_ Iff.rfl
   simp only [pstep,←gV]
   unfold Zc at hc
   split at hc
   ·rename_i h1 h2;rw [h1,h2];cases hc;rfl
   ·cases hc
  ·exact h.elim
 | eqs d neg zs x y=>
  intro l K h
  simp only [rH] at h
  split at h
  ·rename_i hb
   exact one _ l K d _ (by simp only [pstep,←gV];rw [if_pos hb]) Iff.rfl h
  ·exact h.elim
 | pick d c a b=>
  intro l K h
  simp only [rH] at h
  split at h
  ·rename_i t hc
   cases t with
   | true=>exact Jn _ l K d _ h (by simp only [pstep,←gV,hc,if_true]) Iff.rfl
   | false=>exact Jn _ l K d _ h (by simp only [pstep,←gV,hc,Bool.false_eq_true,if_false]) Iff.rfl
  ·exact h.elim
 | elp d x i sz=>
  intro l K h
  simp only [rH] at h
  split at h
  ·rename_i xs k n h1 h2
   obtain ⟨⟨h0,y,hy,hl⟩,hk⟩:=h
   exact one _ l K d _ (by simp only [pstep,←gV,h1,h2,if_pos h0,hy,if_pos hl]) Iff.rfl hk
  ·exact h.elim
 | eld d s off zs=>
  intro l K h
  simp only [rH] at h
  split at h
  ·rename_i xs k n h1
   obtain ⟨⟨y,hy,hl,hkd⟩,hk⟩:=h
   refine Jn _ l K d _ hk ?_ Iff.rfl
   simp only [pstep,h1,hy]
   rw [if_pos (by simp [hl,hkd]),XZ hy zs off hl hkd]
  ·exact h.elim
 | len d x=>
  intro l K h
  simp only [rH] at h
  split at h
  ·rename_i xs h1
   exact one _ l K d _ (by simp only [pstep,←gV,h1]) Iff.rfl h
  ·exact h.elim
 | app d sz sc x y=>
  intro l K h
  simp only [rH] at h
  split at h
  ·rename_i xs ys h1 h2
   obtain ⟨h3,hk⟩:=h
   have h3':xs.length+ys.length≤lim∧(∀ x∈xs++ys,x.length=sz)∧(sc=true→∀ y∈ys,y.all oW=true):=h3
   exact one _ l K d _ (by simp only [pstep,←gV,h1,h2];rw [if_pos h3']) Iff.rfl hk
  ·exact h.elim
 | mk d z n c=>
  intro l K h
  simp only [rH] at h
  split at h
  ·rename_i k m h1 h2
   obtain ⟨h3,hk⟩:=h
   exact one _ l K d _ (by simp only [pstep,←gV,h1,h2];rw [if_pos h3]) Iff.rfl hk
  ·exact h.elim
 | cvt d k x=>
  intro l K h
  simp only [rH] at h
  split at h
  ·rename_i n h1
   exact one _ l K d _ (by simp only [pstep,←gV,h1]) Iff.rfl h
  ·exact h.elim
 | g s b d p ih=>intro l K h;exact h.elim
 | call d f sig aas bs=>
  intro l K h
  simp only [rH,Ec] at h
  obtain ⟨rs,xs,h1,h2,h3,h4⟩:=h.h
  rw [aDf,Xe] at h4
  exact ⟨_,⟨rs,xs,by rw [←Te];exact h1,h2,h3,by rw [sA,Td]⟩,h4⟩
 | ioc d f sig x y hh i pl=>intro l K h;obtain ⟨⟨c,h1,h2⟩⟩:=h;simp [pstep] at h1
 | callc d s f sig aas=>
  intro l K h
  simp only [rH,Ec] at h
  obtain ⟨fs,cs,rs,h1,h2,h3,h4,h5,h6,h7,h8⟩:=h.h
  rw [Xe] at h8
  rw [Te] at h2 h5 h6
  rw [List.length_map] at h2 h5
  exact ⟨_,⟨fs,cs,rs,h1,h2,h3,h4,h5,h6,h7,by rw [sA]⟩,h8⟩
 | els s off hh i x=>
  intro l K h
  simp only [rH] at h
  split at h
  ·rename_i xs k n h1
   split at h
   ·rename_i ys h2
    rw [Tf] at h
    obtain ⟨⟨a,b,ha,hb,hab,ho⟩,hk⟩:=h
    refine Jn _ l K _ _ hk ?_ Iff.rfl
    simp only [pstep,h1,h2,ha,hb,←gV]
    rw [if_pos ⟨hab,ho⟩]
    simp only [Ed,List.getD_eq_getElem?_getD,hb,Option.getD_some]
   ·exact h.elim
  ·exact h.elim
 | bxp d i len=>
  intro l K h
  simp only [rH] at h
  split at h
  ·rename_i k n h1
   obtain ⟨h3,hk⟩:=h
   exact one _ l K _ _ (by simp only [pstep,←gV,h1];rw [if_pos h3]) Iff.rfl hk
  ·exact h.elim
 | bxl d s b es off n=>intro l K h;obtain ⟨c,h1,h2⟩:=h.h;exact one _ l K _ c h1 Iff.rfl h2
 | bxs s b es off x=>intro l K h;obtain ⟨c,h1,h2⟩:=h.h;exact one _ l K _ c h1 Iff.rfl h2
 | slen d x=>intro l K h;obtain ⟨c,h1,h2⟩:=h.h;exact one _ l K _ c h1 Iff.rfl h2
 | sidx d x i=>intro l K h;obtain ⟨c,h1,h2⟩:=h.h;exact one _ l K _ c h1 Iff.rfl h2
 | ssl d x lo hi=>intro l K h;obtain ⟨c,h1,h2⟩:=h.h;exact one _ l K _ c h1 Iff.rfl h2
 | lsl d sz x lo hi mx=>
  intro l K h
  simp only [rH] at h
  split at h
  ·rename_i xs h1
   split at h
   ·rename_i a b h2 h3 h4
    obtain ⟨⟨p1,p2,p3,p4⟩,hk⟩:=h
    have e1:=Xf (dft:=0) h2 p1
    have e2:=Xf h3 (by omega)
    have hm:mx=none:=by cases mx with | none=>rfl | some _=>cases h4
    subst hm
    refine one _ l K _ _ ?_ Iff.rfl hk
    simp only [pstep,←gV,h1,e1,e2]
    rw [show EM (lk l e) none b.toNat=some b.toNat from rfl]
    dsimp only
    rw [if_pos ⟨by omega,by omega,.inl (by simp),p4⟩]
   ·exact h.elim
  ·exact h.elim
 | s2b d x=>intro l K h;obtain ⟨c,h1,h2⟩:=h.h;exact one _ l K _ c h1 Iff.rfl h2
 | b2s d x=>intro l K h;obtain ⟨c,h1,h2⟩:=h.h;exact one _ l K _ c h1 Iff.rfl h2
 | min d x y=>
  intro l K h
  simp only [rH] at h
  split at h
  ·rename_i k a k' b h1 h2
   split at h
   ·rename_i hk
    exact one _ l K _ _ (by simp only [pstep,←gV,h1,h2];rw [if_pos (of_decide_eq_true hk)]) Iff.rfl h
   ·exact h.elim
  ·exact h.elim
 | i2s d x=>intro l K h;obtain ⟨c,h1,h2⟩:=h.h;exact one _ l K _ c h1 Iff.rfl h2
 | fn d g fs cs=>intro l K h;exact one _ l K _ _ rfl Iff.rfl h

theorem aDg {Φ:Ask}{e:Env}(p:PS)(l:Sl)(K:Sl→Prop)(h:wqs Φ e p l K):∃ l',cG Φ p (lk l e) (lk l' e)∧K l':=by
 by_cases hg:∃ s b d q,p= .g s b d q
 ·obtain ⟨s,b,d,p,rfl⟩:=hg
  simp only [wqs] at h
  have nogo:lk l e s≠[.bool b]→K ((d,[])::l)→∃ l',cG Φ (.g s b d p) (lk l e) (lk l' e)∧K l':=fun hn hk=>⟨(d,[])::l,.inr ⟨hn,by rw [sA]⟩,hk⟩
  split at h
  ·rename_i v hv
   cases v with
   | true=>
    simp only [QX] at h
    cases b with
    | true=>
     obtain ⟨l',h1,h2⟩:=Lz _ _ _ h
     rw [BH hv] at h1
     exact ⟨l',.inl ⟨hv,h1⟩,h2⟩
    | false=>
     refine ⟨_,.inr ⟨by rw [hv];simp,?_⟩,h⟩
     rw [sA,BH hv]
   | false=>
    simp only [QX] at h
    cases b with
    | false=>
     obtain ⟨l',h1,h2⟩:=Lz _ _ _ h
     rw [BH hv] at h1
     exact ⟨l',.inl ⟨hv,h1⟩,h2⟩
    | true=>
     refine ⟨_,.inr ⟨by rw [hv];simp,?_⟩,h⟩
     rw [sA,BH hv]
  ·rename_i hv
   exact nogo (by rw [hv];simp) h
  ·exact h.elim

 ·refine Lz p l K ?_
  cases p<;>first | exact h | exact (hg ⟨_,_,_,_,rfl⟩).elim

theorem Th {Φ:Ask}{e:Env}:∀ (ps:List PS) (l:Sl) (K:Sl→Prop),Zj Φ e ps l K→∃ l',qB Φ ps (lk l e) (lk l' e)∧K l'
 | [],l,K,h=>⟨l,rfl,h⟩
 | p::ps,l,K,h=>by
  rw [Ug] at h
  obtain ⟨l1,h1,h2⟩:=aDg p l _ h
  obtain ⟨l2,h3,h4⟩:=Th ps l1 K h2
  exact ⟨l2,⟨_,h1,h3⟩,h4⟩

abbrev WQ:=PX→Sl→Env→Prop

def toQ (Q:WQ):PX→Env→Prop:=fun x e'=>∃ l e,e'=lk l e∧Q x l e

structure LoopQ (Φ:Ask) (a:PC) (Q:WQ) (l:Sl) (e:Env):Prop where
 h:pwp Φ (.loop a) (toQ Q) (lk l e)

noncomputable def Xh (l:Sl)(e:Env)(c:Opd)(A B:Sl→Prop):Prop:=
 match og l e c with
 | [.bool v]=>match c with
  | .t s=>QX v (A ((s,[.bool true])::l)) (B ((s,[.bool false])::l))
  | .c _=>QX v (A l) (B l)
 | _=>False

noncomputable def wq (Φ:Ask)(p:PC)(Q:WQ)(l:Sl)(e:Env):Prop:=
 PC.rec (motive:=fun _=>WQ→Sl→Env→Prop)
  (fun Q l e=>Q .normal l e)
  (fun _ _ _=>False)
  (fun ps Q l e=>Zj Φ e ps l fun l'=>Q .normal l' e)
  (fun _ _ iha ihb Q l e=>iha (fun x l' e'=>match x with
   | .normal=>ihb Q l' e'
   | .exit i=>Q (.exit i) l' e'
   | .ret vs=>Q (.ret vs) l' e') l e)
  (fun c _ _ iha ihb Q l e=>Xh l e c (fun l=>iha Q l e) (fun l=>ihb Q l e))
  (fun id _ iha Q l e=>iha (fun x l' e'=>match x with
   | .normal=>Q .normal l' e'
   | .exit i=>match Nat.beq i id with
    | true=>Q .normal l' e'
    | false=>Q (.exit i) l' e'
   | .ret vs=>Q (.ret vs) l' e') l e)
  (fun a _ Q l e=>LoopQ Φ a Q l e)
  (fun id Q l e=>Q (.exit id) l e)
  (fun rs Q l e=>Zh (Nm l e rs) fun vs=>Q (.ret vs) l e)
  p Q l e

theorem aCa {Φ:Ask}:∀ (p:PC) (Q:WQ) (l:Sl) (e:Env),wq Φ p Q l e→pwp Φ p (toQ Q) (lk l e):=by
 intro p
 induction p with
 | skip=>intro Q l e h;exact ⟨l,e,rfl,h⟩
 | fail=>intro Q l e h;exact h
 | ss ps=>
  intro Q l e h
  obtain ⟨l',h1,h2⟩:=Th ps l _ h
  exact ⟨_,h1,l',e,rfl,h2⟩
 | seq a b iha ihb=>
  intro Q l e h
  refine gK a _ _ ?_ _ (iha _ l e h)
  rintro x _ ⟨l',e',rfl,hx⟩
  cases x with
  | normal=>exact ihb Q l' e' hx
  | exit i=>exact ⟨l',e',rfl,hx⟩
  | ret v=>exact ⟨l',e',rfl,hx⟩
 | cond c a b iha ihb=>
  intro Q l e h
  have h:Xh l e c (fun l=>wq Φ a Q l e) (fun l=>wq Φ b Q l e):=h
  unfold Xh at h
  simp only [pwp]
  split at h
  ·rename_i v hv
   rw [gV] at hv
   cases c with
   | t s=>
    have hv':lk l e s=[.bool v]:=hv
    cases v with
    | true=>refine .inl ⟨hv,?_⟩;have:=iha Q _ _ h;rwa [BH hv'] at this
    | false=>refine .inr ⟨hv,?_⟩;have:=ihb Q _ _ h;rwa [BH hv'] at this
   | c d=>
    cases v with
    | true=>exact .inl ⟨hv,iha Q _ _ h⟩
    | false=>exact .inr ⟨hv,ihb Q _ _ h⟩
  ·exact h.elim
 | block id a iha=>
  intro Q l e h
  refine gK a _ _ ?_ _ (iha _ l e h)
  rintro x _ ⟨l',e',rfl,hx⟩
  cases x with
  | normal=>exact ⟨l',e',rfl,hx⟩
  | exit i=>
   simp only [PX.inBlock]
   dsimp only at hx
   split at hx
   ·rename_i hb;rw [if_pos (Nat.eq_of_beq_eq_true hb)];exact ⟨l',e',rfl,hx⟩
   ·rename_i hb;rw [if_neg (fun k=>by rw [k,Nat.beq_refl] at hb;cases hb)];exact ⟨l',e',rfl,hx⟩
  | ret v=>exact ⟨l',e',rfl,hx⟩
 | loop a iha=>intro Q l e h;exact h.h
 | exit id=>intro Q l e h;exact ⟨l,e,rfl,h⟩
 | ret rs=>intro Q l e h;have h:Zh (Nm l e rs) fun vs=>Q (.ret vs) l e:=h;rw [Ec] at h;exact ⟨l,e,rfl,by rw [←Xc];exact h⟩

noncomputable def Nn (s l:Sl)(e:Env):Prop:=
 List.rec (motive:=fun _=>Prop) True (fun p _ ih=>lk l e p.1=p.2∧ih) s
theorem Qb (d:Nat)(c:List D)(r l:Sl)(e:Env):Nn ((d,c)::r) l e=(lk l e d=c∧Nn r l e):=rfl

theorem IF:∀ {s l:Sl} {e:Env},Nn s l e→lk s (lk l e)=lk l e
 | [],l,e,_=>by funext k;rfl
 | (d,c)::r,l,e,h=>by
  rw [Qb] at h
  rw [sA,IF h.2,←h.1]
  funext k
  simp only [put]
  split
  ·rename_i h;rw [h]
  ·rfl

theorem nQ {Φ:Ask}{a:PC}{Q:WQ}{l:Sl}{e:Env}{X:Type}(P:X→Prop)(st:X→Sl)(mu:X→Nat)(x0:X)(hP:P x0)(h0:Nn (st x0) l e)
  (body:∀ x e,P x→wq Φ a (fun k l' e'=>match k with
   | .normal=>∃ x',mu x'<mu x∧P x'∧Nn (st x') l' e'
   | .exit i=>Q (.exit i) l' e'
   | .ret vs=>Q (.ret vs) l' e') (st x) e):LoopQ Φ a Q l e:=by
 refine ⟨Nk (fun n e1=>∃ x,mu x=n∧P x∧∃ e,e1=lk (st x) e) (mu x0) ⟨x0,rfl,hP,lk l e,(IF h0).symm⟩ ?_⟩
 rintro n _ ⟨x,rfl,hx,e1,rfl⟩
 refine gK a _ _ ?_ _ (aCa a _ _ _ (body x e1 hx))
 rintro k _ ⟨l',e',rfl,hk⟩
 cases k with
 | normal=>
  obtain ⟨x',h1,h2,h3⟩:=hk
  exact ⟨mu x',h1,x',rfl,h2,lk l' e',(IF h3).symm⟩
 | exit i=>exact ⟨l',e',rfl,hk⟩
 | ret v=>exact ⟨l',e',rfl,hk⟩

noncomputable def Uh (k:Nat)(cs:List (List D)):Sl:=
 List.rec (motive:=fun _=>Nat→Sl) (fun _=>[]) (fun a _ ih k=>(k,a)::ih (Nat.succ k)) cs k
theorem Xi (k:Nat):Uh k []=[]:=rfl
theorem Kw (k:Nat)(a:List D)(r:List (List D)):Uh k (a::r)=(k,a)::Uh (k+1) r:=rfl

theorem Xj:∀ (k:Nat) (l:List (List D)) (s:Nat),lk (Uh k l) (fun _=>[]) (k+s)=envL l s
 | k,[],s=>by simp [Xi,Zf,Nj]
 | k,a::r,0=>by simp [Kw,IE,Eb]
 | k,a::r,s+1=>by
  have:Nat.beq (k+(s+1)) k=false:=by
   cases h:Nat.beq (k+(s+1)) k with
   | false=>rfl
   | true=>have:=Nat.eq_of_beq_eq_true h;omega
  simp only [Kw,IE,this,Eb]
  rw [if_neg (by omega),show k+(s+1)=(k+1)+s by omega,Xj (k+1) r s,Nat.add_sub_cancel]
theorem Zk (l:List (List D)):lk (Uh 0 l) (fun _=>[])=envL l:=by
 funext s
 have:=Xj 0 l s
 rwa [Nat.zero_add] at this

def aGb (outs:List (List D)):WQ:=fun x _ _=>match x with
 | .ret vs=>vs=outs
 | .exit _=>False
 | .normal=>False

theorem jN {Φ:Ask}{p:PC}{ins outs:List (List D)}(h:wq Φ p (aGb outs) (Uh 0 ins) (fun _=>[])):pwp Φ p (aL outs) (envL ins):=by
 rw [←Zk]
 refine gK p _ _ ?_ _ (aCa p _ _ _ h)
 rintro x _ ⟨l',e',rfl,hx⟩
 cases x with
 | normal=>exact hx.elim
 | exit i=>exact hx.elim
 | ret v=>exact hx

end
section

structure P2 where
 a:Int
 b:Int
deriving DecidableEq,Inhabited

structure Pk where
 name:Int
 ver:Int
 files:List P2
 deps:List P2
deriving DecidableEq,Inhabited

structure Dk where
 db:List Pk
 files:List Int
 has:Bool
 jour:List Pk
deriving DecidableEq,Inhabited

structure Stp where
 kind:Int
 path:Int
 data:Int
 pkgs:List Pk
deriving DecidableEq,Inhabited

structure SR where
 num:Int
 keys:List Int
 need:Int
 sigs:List Int
deriving DecidableEq,Inhabited

structure Mt where
 name:Int
 ver:Int
 sum:Int
deriving DecidableEq,Inhabited

abbrev eMt (m:Mt):List D:=[.int .i64 m.name,.int .i64 m.ver,.int .i64 m.sum]
abbrev BU (l:List Mt):List D:=[.sl (l.map eMt)]
abbrev eP2 (p:P2):List D:=[.int .i64 p.a,.int .i64 p.b]
abbrev ePk (p:Pk):List D:=[.int .i64 p.name,.int .i64 p.ver,.sl (p.files.map eP2),.sl (p.deps.map eP2)]
abbrev cK (l:List Pk):List D:=[.sl (l.map ePk)]
abbrev jI (l:List P2):List D:=[.sl (l.map eP2)]
abbrev eU (x:Int):List D:=[.int .u8 x]
abbrev uL (l:List Int):List D:=[.sl (l.map i64)]
abbrev Yv (d:Dk):List D:=[.sl (d.db.map ePk),.sl (d.files.map i64),.bool d.has,.sl (d.jour.map ePk)]
abbrev eSt (s:Stp):List D:=[.int .i64 s.kind,.int .i64 s.path,.int .i64 s.data,.sl (s.pkgs.map ePk)]
abbrev eSR (s:SR):List D:=[.int .i64 s.num,.sl (s.keys.map i64),.int .i64 s.need,.sl (s.sigs.map i64)]
abbrev Xk (l:List SR):List D:=[.sl (l.map eSR)]

structure SX where
 num:Int
 till:Int
 ms:List Mt
 sigs:List Int
deriving DecidableEq,Inhabited
abbrev eSX (s:SX):List D:=[.int .i64 s.num,.int .i64 s.till,.sl (s.ms.map eMt),.sl (s.sigs.map i64)]
abbrev aGc (l:List SX):List D:=[.sl (l.map eSX)]
structure Vt where
 kind:Int
 a:Int
 b:Int
 c:Int
 torn:Bool
 pkg:Pk
 root:SR
 ix:SX
deriving DecidableEq,Inhabited
abbrev yR (e:Vt):List D:=[.int .i64 e.kind,.int .i64 e.a,.int .i64 e.b,.int .i64 e.c,.bool e.torn,.int .i64 e.pkg.name,.int .i64 e.pkg.ver,.sl (e.pkg.files.map eP2),.sl (e.pkg.deps.map eP2),.int .i64 e.root.num,.sl (e.root.keys.map i64),.int .i64 e.root.need,.sl (e.root.sigs.map i64),.int .i64 e.ix.num,.int .i64 e.ix.till,.sl (e.ix.ms.map eMt),.sl (e.ix.sigs.map i64)]
def ix {α:Type}[Inhabited α](xs:List α)(n:Int):α:=xs.getD n.toNat default

def mC (n:Int)(P:Int→Prop):Prop:=∀ j:Int,0≤j→j<n→P j
theorem bB (P:Int→Prop):mC 0 P:=fun j h0 h1=>by omega
theorem bH {n:Int}{P:Int→Prop}(h:mC n P)(hn:P n):mC (n+1) P:=fun j h0 h1=>by
 by_cases e:j=n
 ·exact e▸hn
 ·exact h j h0 (by omega)
theorem cW {n m:Int}{P:Int→Prop}(h:mC n P)(hm:m≤n):mC m P:=fun j h0 h1=>h j h0 (by omega)

theorem gT {α:Type}{enc:α→List D}{xs:List α}{i:Int}{sz:Nat}(h0:0≤i)(h1:i<xs.length)(hl:∀ x,(enc x).length=sz):XY (xs.map enc) i sz:=by
 have:i.toNat<xs.length:=by omega
 exact ⟨h0,enc xs[i.toNat],by simp [this],hl _⟩
theorem gU {α:Type}[Inhabited α]{enc:α→List D}{xs:List α}{i:Int}{off:Nat}{zs:List D}(h0:0≤i)(h1:i<xs.length)(hk:∀ x,(Nat.ble (off+zs.length) (enc x).length&&uQ zs (((enc x).drop off).take zs.length))=true):XX (xs.map enc) i off zs:=by
 have:i.toNat<xs.length:=by omega
 have hx:=hk xs[i.toNat]
 simp only [Bool.and_eq_true] at hx
 exact ⟨enc xs[i.toNat],by simp [this],Nat.le_of_ble_eq_true hx.1,hx.2⟩

theorem cO {α:Type}{enc:α→List D}{ys:List α}{sz:Nat}{sc:Bool}(hl:ys.length≤1073741824)(hz:∀ x,(enc x).length=sz)(hs:∀ x,(!sc||(enc x).all oW)=true):Kv sz sc [] (ys.map enc):=by
 refine ⟨by simp [lim,hl],by simp [hz],fun h y hy=>?_⟩
 obtain ⟨x,_,rfl⟩:=List.mem_map.1 hy
 have:=hs x
 rw [h] at this
 simpa using this
theorem cQ {α:Type}{enc:α→List D}{xs:List α}{c:List D}{sz:Nat}{sc:Bool}(hl:xs.length<1073741824)(hz:∀ x,(enc x).length=sz)(hc:c.length=sz)(hs:(!sc||c.all oW)=true):Kv sz sc (xs.map enc) [c]:=by
 refine ⟨by simp [lim];omega,?_,fun h y hy=>?_⟩
 ·intro x hx
  rcases List.mem_append.1 hx with h | h
  ·obtain ⟨y,_,rfl⟩:=List.mem_map.1 h;exact hz y
  ·rw [List.mem_singleton.1 h];exact hc
 ·rw [List.mem_singleton.1 hy]
  rw [h] at hs
  simpa using hs
theorem dZ {α:Type}{enc:α→List D}{xs ys:List α}{sz:Nat}{sc:Bool}(hl:xs.length+ys.length≤1073741824)(hz:∀ x,(enc x).length=sz)(hs:∀ x,(!sc||(enc x).all oW)=true):Kv sz sc (xs.map enc) (ys.map enc):=by
 refine ⟨by simp [lim,hl],?_,fun h y hy=>?_⟩
 ·intro x hx
  rcases List.mem_append.1 hx with h | h<;>(obtain ⟨y,_,rfl⟩:=List.mem_map.1 h;exact hz y)
 ·obtain ⟨x,_,rfl⟩:=List.mem_map.1 hy
  have:=hs x
  rw [h] at this
  simpa using this
theorem lH {xs ys:List Int}{i:Int}{c:List D}(h0:0≤i)(h1:i<xs.length)(h2:i<ys.length)(hc:c.length=1):Tg (xs.map i64) (ys.map i64) i 0 c:=by
 have a:i.toNat<xs.length:=by omega
 have b:i.toNat<ys.length:=by omega
 exact ⟨i64 xs[i.toNat],i64 ys[i.toNat],by simp [a],by simp [b],rfl,by simp [hc]⟩
theorem aE8 {ys:List Int}{i:Int}{v:Int}(h0:0≤i)(h2:i<ys.length):Ed (ys.map i64) i 0 [.int .i64 v]=(ys.set i.toNat v).map i64:=by
 have b:i.toNat<ys.length:=by omega
 simp only [Ed,List.getD_eq_getElem?_getD,List.getElem?_map,List.getElem?_eq_getElem b,Option.map_some,Option.getD_some]
 rw [List.map_set]
 rfl
theorem lI {α:Type}{enc:α→List D}{xs:List α}{sz:Nat}{a b:Int}(h:0≤a∧a≤b∧b≤xs.length)(hz:∀ x,(enc x).length=sz):Xg sz (xs.map enc) a b:=
 ⟨h.1,h.2.1,by simpa using h.2.2,fun x hx=>by obtain ⟨y,_,rfl⟩:=List.mem_map.1 hx;exact hz y⟩
theorem dQ {α:Type}[Inhabited α](enc:α→List D)(xs:List α)(i:Int)(j:Nat):Bk (xs.map enc) i j=if i.toNat<xs.length then (enc (ix xs i)).getD j .bad else .bad:=by
 by_cases h:i.toNat<xs.length
 ·simp [Bk,ix,h]
 ·simp [Bk,h]
theorem cD {α:Type}[Inhabited α]{xs:List α}{i:Int}(h:¬i.toNat<xs.length):ix xs i=default:=by simp [ix,h]

theorem MA (xs:List P2)(i:Int):cI (xs.map eP2) i 0=(ix xs i).a:=by
 by_cases h:i.toNat<xs.length<;>simp [cI,dQ,h,oO]<;>rw [cD h]<;>rfl
theorem MB (xs:List P2)(i:Int):cI (xs.map eP2) i 1=(ix xs i).b:=by
 by_cases h:i.toNat<xs.length<;>simp [cI,dQ,h,oO]<;>rw [cD h]<;>rfl
theorem Zl (xs:List Pk)(i:Int):cI (xs.map ePk) i 0=(ix xs i).name:=by
 by_cases h:i.toNat<xs.length<;>simp [cI,dQ,h,oO]<;>rw [cD h]<;>rfl
theorem Zm (xs:List Pk)(i:Int):cI (xs.map ePk) i 1=(ix xs i).ver:=by
 by_cases h:i.toNat<xs.length<;>simp [cI,dQ,h,oO]<;>rw [cD h]<;>rfl
theorem MC (xs:List Pk)(i:Int):cL (xs.map ePk) i 2=(ix xs i).files.map eP2:=by
 by_cases h:i.toNat<xs.length<;>simp [cL,dQ,h,QY]<;>rw [cD h]<;>rfl
theorem Zn (xs:List Pk)(i:Int):cL (xs.map ePk) i 3=(ix xs i).deps.map eP2:=by
 by_cases h:i.toNat<xs.length<;>simp [cL,dQ,h,QY]<;>rw [cD h]<;>rfl
theorem Zo (xs:List Stp)(i:Int):cI (xs.map eSt) i 0=(ix xs i).kind:=by
 by_cases h:i.toNat<xs.length<;>simp [cI,dQ,h,oO]<;>rw [cD h]<;>rfl
theorem Zp (xs:List Stp)(i:Int):cI (xs.map eSt) i 1=(ix xs i).path:=by
 by_cases h:i.toNat<xs.length<;>simp [cI,dQ,h,oO]<;>rw [cD h]<;>rfl
theorem Zq (xs:List Stp)(i:Int):cI (xs.map eSt) i 2=(ix xs i).data:=by
 by_cases h:i.toNat<xs.length<;>simp [cI,dQ,h,oO]<;>rw [cD h]<;>rfl
theorem Zr (xs:List Stp)(i:Int):cL (xs.map eSt) i 3=(ix xs i).pkgs.map ePk:=by
 by_cases h:i.toNat<xs.length<;>simp [cL,dQ,h,QY]<;>rw [cD h]<;>rfl
theorem Zs (xs:List SR)(i:Int):cI (xs.map eSR) i 0=(ix xs i).num:=by
 by_cases h:i.toNat<xs.length<;>simp [cI,dQ,h,oO]<;>rw [cD h]<;>rfl
theorem Zt (xs:List SR)(i:Int):cL (xs.map eSR) i 1=(ix xs i).keys.map i64:=by
 by_cases h:i.toNat<xs.length<;>simp [cL,dQ,h,QY]<;>rw [cD h]<;>rfl
theorem Zu (xs:List SR)(i:Int):cI (xs.map eSR) i 2=(ix xs i).need:=by
 by_cases h:i.toNat<xs.length<;>simp [cI,dQ,h,oO]<;>rw [cD h]<;>rfl
theorem Zv (xs:List SR)(i:Int):cL (xs.map eSR) i 3=(ix xs i).sigs.map i64:=by
 by_cases h:i.toNat<xs.length<;>simp [cL,dQ,h,QY]<;>rw [cD h]<;>rfl
theorem Zw (xs:List Mt)(i:Int):cI (xs.map eMt) i 0=(ix xs i).name:=by
 by_cases h:i.toNat<xs.length<;>simp [cI,dQ,h,oO]<;>rw [cD h]<;>rfl
theorem Zx (xs:List Mt)(i:Int):cI (xs.map eMt) i 1=(ix xs i).ver:=by
 by_cases h:i.toNat<xs.length<;>simp [cI,dQ,h,oO]<;>rw [cD h]<;>rfl
theorem Zy (xs:List Mt)(i:Int):cI (xs.map eMt) i 2=(ix xs i).sum:=by
 by_cases h:i.toNat<xs.length<;>simp [cI,dQ,h,oO]<;>rw [cD h]<;>rfl
theorem Zz (xs:List SX)(i:Int):cI (xs.map eSX) i 0=(ix xs i).num:=by
 by_cases h:i.toNat<xs.length<;>simp [cI,dQ,h,oO]<;>rw [cD h]<;>rfl
theorem aAa (xs:List SX)(i:Int):cI (xs.map eSX) i 1=(ix xs i).till:=by
 by_cases h:i.toNat<xs.length<;>simp [cI,dQ,h,oO]<;>rw [cD h]<;>rfl
theorem aAb (xs:List SX)(i:Int):cL (xs.map eSX) i 2=(ix xs i).ms.map eMt:=by
 by_cases h:i.toNat<xs.length<;>simp [cL,dQ,h,QY]<;>rw [cD h]<;>rfl
theorem aAc (xs:List SX)(i:Int):cL (xs.map eSX) i 3=(ix xs i).sigs.map i64:=by
 by_cases h:i.toNat<xs.length<;>simp [cL,dQ,h,QY]<;>rw [cD h]<;>rfl
theorem aAd (xs:List Vt)(i:Int):cI (xs.map yR) i 0=(ix xs i).kind:=by
 by_cases h:i.toNat<xs.length<;>simp [cI,dQ,h,oO]<;>rw [cD h]<;>rfl
theorem aAe (xs:List Vt)(i:Int):cI (xs.map yR) i 1=(ix xs i).a:=by
 by_cases h:i.toNat<xs.length<;>simp [cI,dQ,h,oO]<;>rw [cD h]<;>rfl
theorem aAf (xs:List Vt)(i:Int):cI (xs.map yR) i 2=(ix xs i).b:=by
 by_cases h:i.toNat<xs.length<;>simp [cI,dQ,h,oO]<;>rw [cD h]<;>rfl
theorem aAg (xs:List Vt)(i:Int):cI (xs.map yR) i 3=(ix xs i).c:=by
 by_cases h:i.toNat<xs.length<;>simp [cI,dQ,h,oO]<;>rw [cD h]<;>rfl
theorem aAh (xs:List Vt)(i:Int):cB (xs.map yR) i 4=(ix xs i).torn:=by
 by_cases h:i.toNat<xs.length<;>simp [cB,dQ,h,Ta]<;>rw [cD h]<;>rfl
theorem aAi (xs:List Vt)(i:Int):cI (xs.map yR) i 5=(ix xs i).pkg.name:=by
 by_cases h:i.toNat<xs.length<;>simp [cI,dQ,h,oO]<;>rw [cD h]<;>rfl
theorem aAj (xs:List Vt)(i:Int):cI (xs.map yR) i 6=(ix xs i).pkg.ver:=by
 by_cases h:i.toNat<xs.length<;>simp [cI,dQ,h,oO]<;>rw [cD h]<;>rfl
theorem aAk (xs:List Vt)(i:Int):cL (xs.map yR) i 7=(ix xs i).pkg.files.map eP2:=by
 by_cases h:i.toNat<xs.length<;>simp [cL,dQ,h,QY]<;>rw [cD h]<;>rfl
theorem aAl (xs:List Vt)(i:Int):cL (xs.map yR) i 8=(ix xs i).pkg.deps.map eP2:=by
 by_cases h:i.toNat<xs.length<;>simp [cL,dQ,h,QY]<;>rw [cD h]<;>rfl
theorem aAm (xs:List Vt)(i:Int):cI (xs.map yR) i 9=(ix xs i).root.num:=by
 by_cases h:i.toNat<xs.length<;>simp [cI,dQ,h,oO]<;>rw [cD h]<;>rfl
theorem Xl (xs:List Vt)(i:Int):cL (xs.map yR) i 10=(ix xs i).root.keys.map i64:=by
 by_cases h:i.toNat<xs.length<;>simp [cL,dQ,h,QY]<;>rw [cD h]<;>rfl
theorem Xm (xs:List Vt)(i:Int):cI (xs.map yR) i 11=(ix xs i).root.need:=by
 by_cases h:i.toNat<xs.length<;>simp [cI,dQ,h,oO]<;>rw [cD h]<;>rfl
theorem Xn (xs:List Vt)(i:Int):cL (xs.map yR) i 12=(ix xs i).root.sigs.map i64:=by
 by_cases h:i.toNat<xs.length<;>simp [cL,dQ,h,QY]<;>rw [cD h]<;>rfl
theorem Xo (xs:List Vt)(i:Int):cI (xs.map yR) i 13=(ix xs i).ix.num:=by
 by_cases h:i.toNat<xs.length<;>simp [cI,dQ,h,oO]<;>rw [cD h]<;>rfl
theorem Xp (xs:List Vt)(i:Int):cI (xs.map yR) i 14=(ix xs i).ix.till:=by
 by_cases h:i.toNat<xs.length<;>simp [cI,dQ,h,oO]<;>rw [cD h]<;>rfl
theorem Xq (xs:List Vt)(i:Int):cL (xs.map yR) i 15=(ix xs i).ix.ms.map eMt:=by
 by_cases h:i.toNat<xs.length<;>simp [cL,dQ,h,QY]<;>rw [cD h]<;>rfl
theorem Xr (xs:List Vt)(i:Int):cL (xs.map yR) i 16=(ix xs i).ix.sigs.map i64:=by
 by_cases h:i.toNat<xs.length<;>simp [cL,dQ,h,QY]<;>rw [cD h]<;>rfl
theorem aE9 (xs:List Int)(i:Int):cI (xs.map i64) i 0=ix xs i:=by
 by_cases h:i.toNat<xs.length<;>simp [cI,dQ,h,oO]<;>rw [cD h]<;>rfl
theorem aGd (xs:List Int)(i:Int):cI (xs.map eU) i 0=ix xs i:=by
 by_cases h:i.toNat<xs.length<;>simp [cI,dQ,h,oO]<;>rw [cD h]<;>rfl
theorem aGe (xs:List Bool)(i:Int):cB (xs.map bo) i 0=ix xs i:=by
 by_cases h:i.toNat<xs.length<;>simp [cB,dQ,h,Ta]<;>rw [cD h]<;>rfl

theorem aC (n:Int)(h: -9223372036854775808≤n∧n≤9223372036854775807):IntKind.i64.wrap n=n:=by
 show (if (true&&decide (n % (2^64:Int)≥(2^63:Int)))=true then n % (2^64:Int) - (2^64:Int) else n % (2^64:Int))=n
 simp only [Bool.true_and,decide_eq_true_eq]
 split<;>omega
theorem aP {a b:Int}(h:a=b):([.int .i64 a]:List D)=[.int .i64 b]:=by rw [h]
theorem dO {α:Type}[Inhabited α]{xs:List α}{i:Int}(h0:0≤i)(h1:i<xs.length):ix xs i∈xs:=by
 have:i.toNat<xs.length:=by omega
 simp [ix,this]
theorem lL {α:Type}[Inhabited α]{xs ys:List α}(hl:xs.length=ys.length)(h:mC xs.length (fun i=>ix xs i=ix ys i)):xs=ys:=by
 refine List.ext_getElem hl (fun n h1 h2=>?_)
 have:=h n (by omega) (by omega)
 simpa [ix,h1,h2] using this
theorem Gz {α:Type}[Inhabited α](ps:List α){i:Int}(h0:0≤i)(h1:i<ps.length):ps.take (i+1).toNat=ps.take i.toNat++[ix ps i]:=by
 have h:i.toNat<ps.length:=by omega
 rw [show (i+1).toNat=i.toNat+1 by omega,List.take_succ_eq_append_getElem h]
 simp [ix,h]
theorem jE {a b:List (List D)}(h:a=b):([.sl a]:List D)=[.sl b]:=by rw [h]
theorem aY {a c:List D}(h1:a=c):([a]:List (List D))=[c]:=by rw [h1]
theorem aZ {a b c d:List D}(h1:a=c)(h2:b=d):([a,b]:List (List D))=[c,d]:=by rw [h1,h2]
theorem aCb {a b:Bool}(h:a=b):([.bool a]:List D)=[.bool b]:=by rw [h]
theorem rb {a b:Bool}(h:a=b):([[.bool a]]:List (List D))=[[.bool b]]:=by rw [h]
theorem ri {a b:Int}(h:a=b):([[.int .i64 a]]:List (List D))=[[.int .i64 b]]:=by rw [h]
theorem tD {p:Prop}[Decidable p](h:p):true=decide p:=by simp [h]
theorem fD {p:Prop}[Decidable p](h:¬p):false=decide p:=by simp [h]

/-! Short names of the equations that a run uses. -/
def z0:=@aGd
def z1:=@MA
def z2:=@MB
def z3:=@Zl
def z4:=@Zm
def z5:=@MC
def z6:=@Zn
def z7:=@Zo
def z8:=@Zp
def z9:=@Zq
def z10:=@Zr
def z11:=@aE9
def z12:=@aGe
def z14:=@decide_eq_true_eq
def z15:=@decide_eq_false_iff_not
def z16:=@Bool.not_eq_true'
def z17:=@Bool.not_eq_false'
def z18:=@Bool.not_not
def z19:=@ge_iff_le
def z26:=@Zs
def z27:=@Zt
def z38:=@Zu
def z42:=@Zv
def z43:=@Zw
def z44:=@Zx
def z45:=@Zy
def z28:=@Bool.and_true
def z29:=@Bool.true_and
def z30:=@Bool.and_eq_true
def z32:=@Bool.and_self
def z33:=@Bool.bne_true
def z34:=@Bool.bne_false
def z35:=@Bool.not_eq_true
def z36:=@Bool.and_eq_false_imp
def z37:=@Nat.zero_add
def z39:=@Nat.succ_eq_add_one
def z40:=@Bool.false_eq_true
def z41:=@Bool.true_eq_false
def zA:=And.intro @Zz (And.intro @aAa (And.intro @aAb (And.intro @aAc (And.intro @aAd (And.intro @aAe (And.intro @aAf (And.intro @aAg (And.intro @aAh (And.intro @aAi (And.intro @aAj (And.intro @aAk (And.intro @aAl (And.intro @aAm (And.intro @Xl (And.intro @Xm (And.intro @Xn (And.intro @Xo (And.intro @Xp (And.intro @Xq (And.intro @Xr (And.intro @z43 (And.intro @z44 (And.intro @z45 (And.intro @z26 (And.intro @z27 (And.intro @z38 (And.intro @z42 (And.intro @z0 (And.intro @z1 (And.intro @z2 (And.intro @z3 (And.intro @z4 (And.intro @z5 (And.intro @z6 (And.intro @z7 (And.intro @z8 (And.intro @z9 (And.intro @z10 (And.intro @z11 (And.intro @z12 (And.intro @z14 (And.intro @z15 (And.intro @z16 (And.intro @z17 (And.intro @z18 (And.intro @z28 (And.intro @z29 (And.intro @z30 (And.intro @z32 (And.intro @z33 (And.intro @z34 (And.intro @z35 (And.intro @z36 (And.intro @z37 (And.intro @z39 (And.intro @z40 (@z41)))))))))))))))))))))))))))))))))))))))))))))))))))))))))

end
section

inductive Cv where
 | lit (b:Bool)
 | val (c:List D)
def Cv.cells:Cv→List D
 | .lit b=>[.bool b]
 | .val c=>c
theorem dJ (c:List D):(Cv.val c).cells=c:=rfl
theorem gG (b:Bool):(Cv.lit b).cells=[.bool b]:=rfl
abbrev Sm:=List (Nat×Cv)
noncomputable def lm (l:Sm)(e:Env)(s:Nat):Cv:=
 List.rec (motive:=fun _=>Cv) (.val (e s)) (fun p _ ih=>match Nat.beq s p.1 with | true=>p.2 | false=>ih) l
noncomputable def ev (l:Sm)(e:Env):Env:=fun s=>(lm l e s).cells
theorem lA (d:Nat)(c:Cv)(l:Sm)(e:Env):ev ((d,c)::l) e=put (ev l e) d c.cells:=by
 funext s
 show (match Nat.beq s d with | true=>c | false=>lm l e s).cells=_
 simp only [put,ev]
 cases h:Nat.beq s d with
 | true=>rw [if_pos (Nat.eq_of_beq_eq_true h)]
 | false=>rw [if_neg (fun k=>by rw [k,Nat.beq_refl] at h;cases h)]
noncomputable def wB (l:Sm)(e:Env):Opd→Cv
 | .t s=>lm l e s
 | .c (.bool b)=> .lit b
 | .c d=> .val [d]
theorem bK (l:Sm)(e:Env)(x:Opd):(wB l e x).cells=x.get (ev l e):=by
 cases x with
 | t s=>rfl
 | c d=>cases d<;>rfl

inductive Fr where
 | ss (ps:List PS)
 | pc (p:PC)
 | blk (id:Nat)
 | lp (k:Nat)

inductive Ev where
 | stuck
 | norm (l:Sm)
 | exit (id:Nat) (l:Sm)
 | ret (vs:List (List D)) (l:Sm)
 | next (k:Nat) (l:Sm)
 | need (P:Prop) (fs:List Fr) (l:Sm)
 | ite (t:Bool) (fs1:List Fr) (l1:Sm) (fs2:List Fr) (l2:Sm)
 | call (f:Nat) (sig:Sig) (ins:List (List D)) (bs:List Nat) (d:Nat) (fs:List Fr) (l:Sm)
 | callc (f:Nat) (sig:Sig) (fn:List D) (ins:List (List D)) (d:Nat) (fs:List Fr) (l:Sm)
 | io (f:Nat) (sig:Sig) (xc yc hc:List D) (h i d:Nat) (fs:List Fr) (l:Sm)
 | ioe (f:Nat) (sig:Sig) (pc yc hc:List D) (h i off d:Nat) (fs:List Fr) (l:Sm)
 | fb (p:PS) (fs:List Fr) (l:Sm)
 | loop (a:PC) (fs:List Fr) (l:Sm)

def fD' (d:D)(K:D→Ev):Ev:=
 match d with
 | .int k n=>K (.int k n)
 | .bool b=>K (.bool b)
 | .str s=>K (.str s)
 | .sl l=>K (.sl l)
 | d=>K d
noncomputable def fL (c:List D)(K:List D→Ev):Ev:=
 List.rec (motive:=fun _=>(List D→Ev)→Ev) (fun K=>K []) (fun d _ ih K=>fD' d fun d=>ih fun r=>K (d::r)) c K
noncomputable def fLs (cs:List (List D))(K:List (List D)→Ev):Ev:=
 List.rec (motive:=fun _=>(List (List D)→Ev)→Ev) (fun K=>K []) (fun c _ ih K=>fL c fun c=>ih fun r=>K (c::r)) cs K
theorem aFa (d:D)(K:D→Ev):fD' d K=K d:=by cases d<;>rfl
theorem Bl:∀ (c:List D) (K:List D→Ev),fL c K=K c
 | [],_=>rfl
 | d::r,K=>by
  show fD' d (fun d=>fL r fun r=>K (d::r))=_
  rw [aFa,Bl r]
theorem Ee:∀ (c:List (List D)) (K:List (List D)→Ev),fLs c K=K c
 | [],_=>rfl
 | d::r,K=>by
  show fL d (fun d=>fLs r fun r=>K (d::r))=_
  rw [Bl,Ee r]
noncomputable def wE (d:Nat)(c:List D)(l:Sm)(K:Sm→Ev):Ev:=fL c fun c=>K ((d,.val c)::l)
theorem aFb (d:Nat)(c:List D)(l:Sm)(K:Sm→Ev):wE d c l K=K ((d,.val c)::l):=by rw [wE,Bl]
def okE (o:Option (List D))(K:List D→Ev):Ev:=match o with | some c=>K c | none=> .stuck
noncomputable def aAn (l:Sm)(e:Env)(xs:List Opd):List (List D):=
 List.rec (motive:=fun _=>List (List D)) [] (fun x _ ih=>(wB l e x).cells::ih) xs
theorem Ti (l:Sm)(e:Env)(xs:List Opd):aAn l e xs=xs.map (·.get (ev l e)):=by
 induction xs with
 | nil=>rfl
 | cons x xs ih=>show (wB l e x).cells::aAn l e xs=_;rw [ih,bK];rfl
noncomputable def Xs (l:Sm)(e:Env)(xs:List Nat):List (List D):=
 List.rec (motive:=fun _=>List (List D)) [] (fun x _ ih=>(lm l e x).cells::ih) xs
theorem Tj (l:Sm)(e:Env)(xs:List Nat):Xs l e xs=xs.map (ev l e):=by
 induction xs with
 | nil=>rfl
 | cons x xs ih=>show (lm l e x).cells::Xs l e xs=_;rw [ih];rfl
noncomputable def fGs (l:Sm)(e:Env)(gs:List (Bool×Opd))(K:List (Bool×List D)→Ev):Ev:=
 List.rec (motive:=fun _=>(List (Bool×List D)→Ev)→Ev) (fun K=>K []) (fun p _ ih K=>fL (wB l e p.2).cells fun c=>ih fun r=>K ((p.1,c)::r)) gs K
theorem Xt (l:Sm)(e:Env):∀ (gs:List (Bool×Opd)) (K:List (Bool×List D)→Ev),fGs l e gs K=K (gs.map fun p=>(p.1,p.2.get (ev l e)))
 | [],_=>rfl
 | p::r,K=>by
  show fL (wB l e p.2).cells (fun c=>fGs l e r fun r=>K ((p.1,c)::r))=_
  rw [Bl,Xt l e r,bK]
  rfl
noncomputable def idE (l:Sm)(e:Env)(o:Option Opd)(dft:Int):Option Int:=
 match o with
 | none=>some dft
 | some x=>match (wB l e x).cells with
  | [.int _ n]=>some n
  | _=>none

def aFc (op:BinOp)(a b:List D)(fs:List Fr)(d:Nat)(l:Sm)(K:List D→Ev):Ev:=
 match op with
 | .quo=>match a,b with
  | [.int k x],[.int k' y]=>match decide (k=k') with
   | true=> .need (y≠0) fs ((d,.val [.int k (k.wrap (x.tdiv y))])::l)
   | false=> .stuck
  | _,_=> .stuck
 | .rem=>match a,b with
  | [.int k x],[.int k' y]=>match decide (k=k') with
   | true=> .need (y≠0) fs ((d,.val [.int k (x.tmod y)])::l)
   | false=> .stuck
  | _,_=> .stuck
 | .add=>match a,b with
  | [.str x],[.str y]=> .need (x.size+y.size≤lim) fs ((d,.val [.str (x++y)])::l)
  | a,b=>okE (Jn (BR .add) a b) K
 | op=>okE (Jn (BR op) a b) K

def bAt (s:ByteArray)(n:Int):Int:=(s[n.toNat]?.getD 0).toNat

noncomputable def zH (e:Env)(fs:List Fr)(p:PS)(l:Sm)(K:Sm→Ev):Ev:=
 match p with
 | .nop=>K l
 | .mv d x=>match wB l e x with
  | .lit b=>K ((d,.lit b)::l)
  | .val c=>wE d c l K
 | .sub d s off n=>match Nat.ble (off+n) (lm l e s).cells.length with
  | true=>wE d (((lm l e s).cells.drop off).take n) l K
  | false=> .stuck
 | .ext d s off n=>match Nat.ble (off+n) (lm l e s).cells.length with
  | true=>wE d (((lm l e s).cells.drop off).take n) l K
  | false=> .stuck
 | .bld d z ps=>wE d (DA (ev l e) z ps) l K
 | .lit d n z ps=>fLs (CI (ev l e) (List.replicate n z) ps) fun xs=>K ((d,.val [.sl xs])::l)
 | .st b off x=>match Nat.ble (off+(wB l e x).cells.length) (lm l e b).cells.length with
  | true=>wE b (cA (lm l e b).cells off (wB l e x).cells) l K
  | false=> .stuck
 | .bin d op x y=>aFc op (wB l e x).cells (wB l e y).cells fs d l fun c=>wE d c l K
 | .un d op x=>match op,wB l e x with
  | .not,.lit b=>K ((d,.lit (!b))::l)
  | op,v=>okE (one (unV op) v.cells) fun c=>wE d c l K
 | .beq d neg x y=>okE (Zc neg (wB l e x).cells (wB l e y).cells) fun c=>wE d c l K
 | .eqs d neg zs x y=>fL (wB l e x).cells fun a=>fL (wB l e y).cells fun b=>match fits zs a&&fits zs b with
  | true=>K ((d,.val [.bool (eqDs a b != neg)])::l)
  | false=> .stuck
 | .pick d c a b=>match wB l e c with
  | .lit true=>match wB l e a with
   | .lit v=>K ((d,.lit v)::l)
   | .val v=>wE d v l K
  | .lit false=>match wB l e b with
   | .lit v=>K ((d,.lit v)::l)
   | .val v=>wE d v l K
  | .val [.bool t]=> .ite t (.ss [.mv d a]::fs) l (.ss [.mv d b]::fs) l
  | _=> .stuck
 | .elp d x i sz=>match (wB l e x).cells,(wB l e i).cells with
  | [.sl xs],[.int k n]=> .need (XY xs n sz) fs ((d,.val [.sl xs,.int k n])::l)
  | _,_=> .stuck
 | .eld d s off zs=>match (lm l e s).cells with
  | [.sl xs,.int _ n]=>fL (rd xs n off zs) fun c=> .need (XX xs n off zs) fs ((d,.val c)::l)
  | _=> .stuck
 | .len d x=>match (wB l e x).cells with
  | [.sl xs]=>K ((d,.val [.int .i64 xs.length])::l)
  | _=> .stuck
 | .app d sz sc x y=>match (wB l e x).cells,(wB l e y).cells with
  | [.sl xs],[.sl ys]=> .need (Kv sz sc xs ys) fs ((d,.val [.sl (xs++ys)])::l)
  | _,_=> .stuck
 | .mk d z n c=>match (wB l e n).cells,(wB l e c).cells with
  | [.int _ k],[.int _ m]=> .need (0≤k∧k≤m∧m≤lim) fs ((d,.val [.sl (List.replicate k.toNat z)])::l)
  | _,_=> .stuck
 | .cvt d k x=>match (wB l e x).cells with
  | [.int _ n]=>K ((d,.val [.int k (k.wrap n)])::l)
  | _=> .stuck
 | .els s off h i x=>match (lm l e s).cells with
  | [.sl xs,.int _ k]=>match (lm l e h).cells[i]? with
   | some (.sl ys)=>fL (wB l e x).cells fun c=>fL ((lm l e h).cells.set i (.sl (Ed ys k off c))) fun r=> .need (Tg xs ys k off c) fs ((h,.val r)::l)
   | _=> .stuck
  | _=> .stuck
 | .fn d g gs cs=>fGs l e gs fun gv=>fLs (Xs l e cs) fun cv=>K ((d,.val [.fn g gv cv])::l)
 | .min d x y=>match (wB l e x).cells,(wB l e y).cells with
  | [.int k a],[.int k' b]=>match decide (k=k') with
   | true=>K ((d,.val [.int k (if b<a then b else a)])::l)
   | false=> .stuck
  | _,_=> .stuck
 | .bxp d i len=>match (wB l e i).cells with
  | [.int k n]=> .need (0≤n∧n<len) fs ((d,.val [.int k n])::l)
  | _=> .stuck
 | .lsl d sz x lo hi mx=>match (wB l e x).cells with
  | [.sl xs]=>match idE l e lo 0,idE l e hi xs.length,aE7 mx with
   | some a,some b,true=> .need (Xg sz xs a b) fs ((d,.val [.sl ((xs.take b.toNat).drop a.toNat)])::l)
   | _,_,_=> .stuck
  | _=> .stuck
 | .call d f sig aas bs=>fLs (aAn l e aas) fun ins=> .call f sig ins bs d fs l
 | .callc d s f sig aas=>fLs (aAn l e aas) fun ins=> .callc f sig (lm l e s).cells ins d fs l
 | .ioc d f sig x y h i pl=>match pl with
  | none=>fL (wB l e x).cells fun xc=>fL (wB l e y).cells fun yc=>fL (lm l e h).cells fun hc=> .io f sig xc yc hc h i d fs l
  | some (p,off)=>fL (lm l e p).cells fun pc=>fL (wB l e y).cells fun yc=>fL (lm l e h).cells fun hc=> .ioe f sig pc yc hc h i off d fs l
 | .g _ _ _ _=> .stuck
 | .slen d x=>match (wB l e x).cells with
  | [.str s]=>K ((d,.val [.int .i64 s.size])::l)
  | _=> .stuck
 | .sidx d x i=>match (wB l e x).cells,(wB l e i).cells with
  | [.str s],[.int _ n]=> .need (0≤n∧n<s.size) fs ((d,.val [.int .u8 (bAt s n)])::l)
  | _,_=> .stuck
 | .ssl d x lo hi=>match (wB l e x).cells with
  | [.str s]=>match idE l e lo 0,idE l e hi s.size with
   | some a,some b=> .need (0≤a∧a≤b∧b≤s.size) fs ((d,.val [.str (s.extract a.toNat b.toNat)])::l)
   | _,_=> .stuck
  | _=> .stuck
 | .s2b d x=>match (wB l e x).cells with
  | [.str s]=> .need (s.size≤lim) fs ((d,.val [.sl (CH s)])::l)
  | _=> .stuck
 | .b2s d x=>match (wB l e x).cells with
  | [.sl xs]=>match Bc xs with
   | some t=>K ((d,.val [.str ⟨t.toArray⟩])::l)
   | none=> .stuck
  | _=> .stuck
 | .i2s d x=>match (wB l e x).cells with
  | [.int _ n]=> .need (0≤n∧n<128) fs ((d,.val [.str ⟨#[UInt8.ofNat n.toNat]⟩])::l)
  | _=> .stuck
 | p=> .fb p fs l

noncomputable def unw (id:Nat)(fs:List Fr):Option (List Fr):=
 List.rec (motive:=fun _=>Option (List Fr)) none (fun f r ih=>match f with
  | .blk j=>match Nat.beq id j with
   | true=>some r
   | false=>ih
  | _=>ih) fs

def gE (v:Cv)(b:Bool)(yes no:Ev)(it:Bool→Ev):Ev:=
 match v with
 | .lit true=>match b with
  | true=>yes
  | false=>no
 | .lit false=>match b with
  | false=>yes
  | true=>no
 | .val [.bool t]=>it t
 | .val []=>no
 | _=> .stuck

noncomputable def run (n:Nat)(e:Env)(fs:List Fr)(l:Sm):Ev:=
 Nat.rec (motive:=fun _=>List Fr→Sm→Ev) (fun _ _=> .stuck) (fun _ ih fs l=>match fs with
  | []=> .norm l
  | .blk _::fs=>ih fs l
  | .lp k::_=> .next k l
  | .ss []::fs=>ih fs l
  | .ss (.g s b d p::ps)::fs=>gE (lm l e s) b (zH e (.ss ps::fs) p l fun l=>ih (.ss ps::fs) l) (ih (.ss ps::fs) ((d,.val [])::l)) fun t=> .ite t (.ss (.g s b d p::ps)::fs) ((s,.lit true)::l) (.ss (.g s b d p::ps)::fs) ((s,.lit false)::l)
  | .ss (p::ps)::fs=>zH e (.ss ps::fs) p l fun l=>ih (.ss ps::fs) l
  | .pc .skip::fs=>ih fs l
  | .pc .fail::_=> .stuck
  | .pc (.ss ps)::fs=>ih (.ss ps::fs) l
  | .pc (.seq a b)::fs=>ih (.pc a:: .pc b::fs) l
  | .pc (.cond (.t s) a b)::fs=>match lm l e s with
   | .lit true=>ih (.pc a::fs) l
   | .lit false=>ih (.pc b::fs) l
   | .val [.bool t]=> .ite t (.pc a::fs) ((s,.lit true)::l) (.pc b::fs) ((s,.lit false)::l)
   | _=> .stuck
  | .pc (.cond (.c (.bool v)) a b)::fs=>match v with
   | true=>ih (.pc a::fs) l
   | false=>ih (.pc b::fs) l
  | .pc (.cond _ _ _)::_=> .stuck
  | .pc (.block id a)::fs=>ih (.pc a:: .blk id::fs) l
  | .pc (.loop a)::fs=> .loop a fs l
  | .pc (.exit id)::fs=>match unw id fs with
   | some fs'=>ih fs' l
   | none=> .exit id l
  | .pc (.ret rs)::_=>fLs (Xs l e rs) fun vs=> .ret vs l) n fs l

noncomputable def nxt (Ns:List (Env→Prop))(k:Nat):Env→Prop:=
 List.rec (motive:=fun _=>Env→Prop) (fun _=>False) (fun N r ih=>match Nat.beq k r.length with | true=>N | false=>ih) Ns

section
variable (Φ:Ask)(Q:PX→Env→Prop)(Ns:List (Env→Prop))
def after:List Fr→PX→Env→Prop
 | [],x,E=>Q x E
 | .ss ps::r,x,E=>match x with
  | .normal=>∃ E',qB Φ ps E E'∧after r .normal E'
  | x=>after r x E
 | .pc p::r,x,E=>match x with
  | .normal=>pwp Φ p (after r) E
  | x=>after r x E
 | .blk id::r,x,E=>match x with
  | .exit i=>if i=id then after r .normal E else after r (.exit i) E
  | x=>after r x E
 | .lp k::r,x,E=>match x with
  | .normal=>nxt Ns k E
  | x=>after r x E

structure RunM (e:Env) (fs:List Fr) (l:Sm):Prop where
 h:after Φ Q Ns fs .normal (ev l e)

noncomputable def No (l:Sm)(bs:List Nat)(cs:List (List D)):Sm:=
 List.rec (motive:=fun _=>List (List D)→Sm→Sm) (fun _ l=>l) (fun b _ ih cs l=>match cs with | []=>l | c::cs=>ih cs ((b,.val c)::l)) bs cs l

def Tk (e:Env):Ev→Prop
 | .stuck=>False
 | .norm l=>Q .normal (ev l e)
 | .exit id l=>Q (.exit id) (ev l e)
 | .ret vs l=>Q (.ret vs) (ev l e)
 | .next k l=>nxt Ns k (ev l e)
 | .need P fs l=>P∧RunM Φ Q Ns e fs l
 | .ite t fs1 l1 fs2 l2=>(t=true→RunM Φ Q Ns e fs1 l1)∧(t=false→RunM Φ Q Ns e fs2 l2)
 | .call f sig ins bs d fs l=>callP Φ f sig ins bs.length fun rs xs=>RunM Φ Q Ns e fs ((d,.val rs.flatten)::No l bs xs)
 | .callc f sig fn ins d fs l=>callcP Φ f sig fn ins fun rs=>RunM Φ Q Ns e fs ((d,.val rs.flatten)::l)
 | .io f sig xc yc hc h i d fs l=>∃ r c,(hc.drop i).take xc.length=xc∧Φ f sig [xc,yc] [r,c]∧c.length=xc.length∧RunM Φ Q Ns e fs ((d,.val r)::(h,.val (cA hc i c))::l)
 | .ioe f sig pc yc hc h i off d fs l=>∃ xs k n ys a b zz r dd',pc=[.sl xs,.int k n]∧hc[i]? =some (.sl ys)∧xs[n.toNat]? =some a∧ys[n.toNat]? =some b∧a.length=b.length∧b[off]? =some (.sl zz)∧
   Φ f sig [[.sl zz],yc] [r,[dd']]∧RunM Φ Q Ns e fs ((d,.val r)::(h,.val (hc.set i (.sl (ys.set n.toNat (b.set off dd')))))::l)
 | .fb p fs l=>∃ c,pstep p (ev l e)=some (put (ev l e) (dstOf p) c)∧RunM Φ Q Ns e fs ((dstOf p,.val c)::l)
 | .loop a fs l=>pwp Φ (.loop a) (after Φ Q Ns fs) (ev l e)
end

theorem Tl (e:Env):∀ (bs:List Nat) (cs:List (List D)) (l:Sm),ev (No l bs cs) e=iZ (ev l e) bs cs
 | [],[],_=>rfl
 | [],_::_,_=>rfl
 | _::_,[],_=>rfl
 | b::bs,c::cs,l=>by
  show ev (No ((b,.val c)::l) bs cs) e=_
  rw [Tl e bs cs,lA,iZ];rfl
theorem HA {l:Sm}{e:Env}{s:Nat}{c:Cv}(h:(lm l e s).cells=c.cells):ev ((s,c)::l) e=ev l e:=by
 rw [lA]
 funext k
 simp only [put]
 split
 ·rename_i hk;rw [hk];exact h.symm
 ·rfl

theorem MD {l:Sm}{e:Env}{o:Option Opd}{dft:Nat}{n:Int}(h:idE l e o dft=some n)(h0:0≤n):EM (ev l e) o dft=some n.toNat:=by
 unfold idE at h
 unfold EM
 cases o with
 | none=>cases h;rfl
 | some x=>
  dsimp only at h ⊢
  rw [←bK]
  split at h
  ·rename_i k m hm
   cases h
   rw [hm]
   dsimp only
   rw [if_pos h0]
  ·cases h

section
variable {Φ:Ask}{Q:PX→Env→Prop}{Ns:List (Env→Prop)}{e:Env}{fs:List Fr}

theorem Xu (p:PS)(l:Sm)(K:Sm→Ev)(hK:∀ l',Tk Φ Q Ns e (K l')→after Φ Q Ns fs .normal (ev l' e))(h:Tk Φ Q Ns e (zH e fs p l K)):
  ∃ E',cG Φ p (ev l e) E'∧after Φ Q Ns fs .normal E':=by
 have go:∀ (d:Nat) (c:Cv),pstep p (ev l e)=some (put (ev l e) d c.cells)→(cG Φ p (ev l e) (put (ev l e) d c.cells)↔pstep p (ev l e)=some (put (ev l e) d c.cells))→Tk Φ Q Ns e (K ((d,c)::l))→∃ E',cG Φ p (ev l e) E'∧after Φ Q Ns fs .normal E':=
  fun d c h1 h2 h3=>⟨_,h2.2 h1,by have:=hK _ h3;rwa [lA] at this⟩
 have gw:∀ (d:Nat) (c:List D),Tk Φ Q Ns e (wE d c l K)→pstep p (ev l e)=some (put (ev l e) d c)→(cG Φ p (ev l e) (put (ev l e) d c)↔pstep p (ev l e)=some (put (ev l e) d c))→∃ E',cG Φ p (ev l e) E'∧after Φ Q Ns fs .normal E':=
  fun d c h3 h1 h2=>go d (.val c) h1 h2 (by rwa [aFb] at h3)
 have gn:∀ (d:Nat) (c:Cv),RunM Φ Q Ns e fs ((d,c)::l)→pstep p (ev l e)=some (put (ev l e) d c.cells)→(cG Φ p (ev l e) (put (ev l e) d c.cells)↔pstep p (ev l e)=some (put (ev l e) d c.cells))→∃ E',cG Φ p (ev l e) E'∧after Φ Q Ns fs .normal E':=
  fun d c h3 h1 h2=>⟨_,h2.2 h1,by have:=h3.h;rwa [lA] at this⟩
 have el:∀ s,(lm l e s).cells=ev l e s:=fun s=>rfl
 cases p with
 | nop=>exact ⟨_,rfl,hK _ h⟩
 | mv d x=>
  simp only [zH] at h
  split at h
  ·rename_i b hb
   exact go d _ (by simp only [pstep,←bK,hb]) Iff.rfl h
  ·rename_i c hc
   exact gw d _ h (by simp only [pstep,←bK,hc,dJ,gG]) Iff.rfl
 | sub d s off n=>
  simp only [zH] at h
  split at h
  ·rename_i hb
   exact gw d _ h (by simp only [pstep];exact if_pos (Nat.le_of_ble_eq_true hb)) Iff.rfl
  ·exact h.elim
 | ext d s off n=>
  simp only [zH] at h
  split at h
  ·rename_i hb
   exact gw d _ h (by simp only [pstep];exact if_pos (Nat.le_of_ble_eq_true hb)) Iff.rfl
  ·exact h.elim
 | bld d z ps=>exact gw d _ h rfl Iff.rfl
 | lit d n z ps=>simp only [zH,Ee] at h;exact go d (.val _) rfl Iff.rfl h
 | st b off x=>
  simp only [zH] at h
  split at h
  ·rename_i hb
   rw [bK] at hb
   exact gw b _ h (by simp only [pstep,bK];exact if_pos (Nat.le_of_ble_eq_true hb)) Iff.rfl
  ·exact h.elim
 | bin d op x y=>
  simp only [zH] at h
  unfold aFc at h
  split at h
  ·split at h
   ·rename_i k a k' b hx hy
    split at h
    ·rename_i hk
     obtain rfl:=of_decide_eq_true hk
     exact gn d _ h.2 (by simp only [pstep,←bK,hx,hy,Jn,BR,EL,if_neg h.1,if_true,Option.map_some,dJ]) Iff.rfl
    ·exact h.elim
   ·exact h.elim
  ·split at h
   ·rename_i k a k' b hx hy
    split at h
    ·rename_i hk
     obtain rfl:=of_decide_eq_true hk
     exact gn d _ h.2 (by simp only [pstep,←bK,hx,hy,Jn,BR,EL,if_neg h.1,if_true,Option.map_some,dJ]) Iff.rfl
    ·exact h.elim
   ·exact h.elim
  ·split at h
   ·rename_i a b hx hy
    exact gn d _ h.2 (by simp only [pstep,←bK,hx,hy,Jn,BR,QH,if_pos h.1,Option.map_some,dJ]) Iff.rfl
   ·simp only [okE] at h
    split at h
    ·rename_i c hc
     exact gw d c h (by simp only [pstep,←bK,hc,Option.map_some]) Iff.rfl
    ·exact h.elim
  ·simp only [okE] at h
   split at h
   ·rename_i c hc
    exact gw d c h (by simp only [pstep,←bK,hc,Option.map_some]) Iff.rfl
   ·exact h.elim
 | un d op x=>
  simp only [zH,okE] at h
  split at h
  ·rename_i b hb
   exact go d _ (by simp only [pstep,←bK,hb];rfl) Iff.rfl h
  ·split at h
   ·rename_i c hc
    exact gw d c h (by simp only [pstep,←bK,hc,Option.map_some]) Iff.rfl
   ·exact h.elim
 | beq d neg x y=>
  simp only [zH,okE] at h
  split at h
  ·rename_i c hc
   refine gw d c h ?_ Iff.rfl
   simp only [pstep,←bK]
   unfold Zc at hc
   split at hc
   ·rename_i h1 h2;rw [h1,h2];cases hc;rfl
   ·cases hc
  ·exact h.elim
 | eqs d neg zs x y=>
  simp only [zH,Bl] at h
  split at h
  ·rename_i hb
   exact go d (.val _) (by simp only [pstep,←bK];rw [if_pos hb];rfl) Iff.rfl h
  ·exact h.elim
 | pick d c a b=>
  simp only [zH] at h
  split at h
  ·rename_i hc
   have hc':=bK l e c
   rw [hc] at hc'
   split at h
   ·rename_i v hv
    exact go d _ (by simp only [pstep,←hc',dJ,gG,if_true,←bK,hv]) Iff.rfl h
   ·rename_i v hv
    exact gw d _ h (by simp only [pstep,←hc',dJ,gG,if_true,←bK,hv]) Iff.rfl
  ·rename_i hc
   have hc':=bK l e c
   rw [hc] at hc'
   split at h
   ·rename_i v hv
    exact go d _ (by simp only [pstep,←hc',dJ,gG,Bool.false_eq_true,if_false,←bK,hv]) Iff.rfl h
   ·rename_i v hv
    exact gw d _ h (by simp only [pstep,←hc',dJ,gG,Bool.false_eq_true,if_false,←bK,hv]) Iff.rfl
  ·rename_i t hc
   have hc':=bK l e c
   rw [hc] at hc'
   cases t with
   | true=>
    obtain ⟨E',⟨E1,h1,rfl⟩,h3⟩:=(h.1 rfl).h
    refine ⟨E',?_,h3⟩
    have h1:some (put (ev l e) d (a.get (ev l e)))=some E':=h1
    show pstep _ _=_
    simp only [pstep,←hc',dJ,gG,if_true];exact h1
   | false=>
    obtain ⟨E',⟨E1,h1,rfl⟩,h3⟩:=(h.2 rfl).h
    refine ⟨E',?_,h3⟩
    have h1:some (put (ev l e) d (b.get (ev l e)))=some E':=h1
    show pstep _ _=_
    simp only [pstep,←hc',dJ,gG,Bool.false_eq_true,if_false];exact h1
  ·exact h.elim
 | elp d x i sz=>
  simp only [zH] at h
  split at h
  ·rename_i xs k n h1 h2
   obtain ⟨⟨h0,y,hy,hl⟩,hk⟩:=h
   exact gn d _ hk (by simp only [pstep,←bK,h1,h2,if_pos h0,hy,if_pos hl,dJ,gG]) Iff.rfl
  ·exact h.elim
 | eld d s off zs=>
  simp only [zH] at h
  split at h
  ·rename_i xs k n h1
   rw [Bl] at h
   obtain ⟨⟨y,hy,hl,hkd⟩,hk⟩:=h
   refine gn d _ hk ?_ Iff.rfl
   have h1':ev l e s=[.sl xs,.int k n]:=h1
   simp only [pstep,h1',hy,dJ,gG]
   rw [if_pos (by simp [hl,hkd]),XZ hy zs off hl hkd]
  ·exact h.elim
 | len d x=>
  simp only [zH] at h
  split at h
  ·rename_i xs h1
   exact go d _ (by simp only [pstep,←bK,h1,dJ,gG]) Iff.rfl h
  ·exact h.elim
 | app d sz sc x y=>
  simp only [zH] at h
  split at h
  ·rename_i xs ys h1 h2
   obtain ⟨h3,hk⟩:=h
   exact gn d _ hk (by simp only [pstep,←bK,h1,h2];exact if_pos h3) Iff.rfl
  ·exact h.elim
 | mk d z n c=>
  simp only [zH] at h
  split at h
  ·rename_i k m h1 h2
   obtain ⟨h3,hk⟩:=h
   exact gn d _ hk (by simp only [pstep,←bK,h1,h2];exact if_pos h3) Iff.rfl
  ·exact h.elim
 | cvt d k x=>
  simp only [zH] at h
  split at h
  ·rename_i n h1
   exact go d _ (by simp only [pstep,←bK,h1,dJ,gG]) Iff.rfl h
  ·exact h.elim
 | els s off hh i x=>
  simp only [zH] at h
  split at h
  ·rename_i xs k n h1
   split at h
   ·rename_i ys h2
    rw [Bl,Bl] at h
    obtain ⟨⟨a,b,ha,hb,hab,ho⟩,hk⟩:=h
    refine gn _ _ hk ?_ Iff.rfl
    have h1':ev l e s=[.sl xs,.int k n]:=h1
    have h2':(ev l e hh)[i]? =some (.sl ys):=h2
    rw [bK] at ho
    simp only [pstep,h1',h2',ha,hb,dJ,gG]
    rw [if_pos ⟨hab,ho⟩]
    simp only [Ed,List.getD_eq_getElem?_getD,hb,Option.getD_some,bK]
    rfl
   ·exact h.elim
  ·exact h.elim
 | bxp d i len=>
  simp only [zH] at h
  split at h
  ·rename_i k n h1
   obtain ⟨h3,hk⟩:=h
   exact gn d _ hk (by simp only [pstep,←bK,h1];exact if_pos h3) Iff.rfl
  ·exact h.elim
 | min d x y=>
  simp only [zH] at h
  split at h
  ·rename_i k a k' b h1 h2
   split at h
   ·rename_i hk
    exact go d _ (by simp only [pstep,←bK,h1,h2];exact if_pos (of_decide_eq_true hk)) Iff.rfl h
   ·exact h.elim
  ·exact h.elim
 | fn d g gs cs=>
  simp only [zH,Xt,Ee,Tj] at h
  exact go d (.val _) rfl Iff.rfl h
 | lsl d sz x lo hi mx=>
  simp only [zH] at h
  split at h
  ·rename_i xs h1
   split at h
   ·rename_i a b h2 h3 h4
    obtain ⟨⟨p1,p2,p3,p4⟩,hk⟩:=h
    have e1:=MD (dft:=0) h2 p1
    have e2:=MD h3 (by omega)
    have hm:mx=none:=by cases mx with | none=>rfl | some _=>cases h4
    subst hm
    refine gn d _ hk ?_ Iff.rfl
    simp only [pstep,←bK,h1,e1,e2]
    rw [show EM (ev l e) none b.toNat=some b.toNat from rfl]
    dsimp only
    exact if_pos ⟨by omega,by omega,.inl (by simp),p4⟩
   ·exact h.elim
  ·exact h.elim
 | call d f sig aas bs=>
  simp only [zH,Ee] at h
  obtain ⟨rs,xs,h1,h2,h3,h4⟩:=h
  exact ⟨_,⟨rs,xs,by rw [←Ti];exact h1,h2,h3,rfl⟩,by have:=h4.h;rwa [lA,Tl] at this⟩
 | ioc d f sig x y hh i pl=>
  cases pl with
  | none=>
   simp only [zH,Bl] at h
   obtain ⟨r,c,h1,h2,h3,h4⟩:=h
   rw [bK] at h1 h2 h3
   rw [bK] at h2
   exact ⟨_,⟨r,c,h1,h2,h3,rfl⟩,by have:=h4.h;rwa [lA,lA] at this⟩
  | some po=>
   obtain ⟨p,off⟩:=po
   simp only [zH,Bl] at h
   obtain ⟨xs,k,n,ys,a,b,zz,r,dd',h1,h2,h3,h4,h5,h6,h7,h8⟩:=h
   rw [bK] at h7
   exact ⟨_,⟨xs,k,n,ys,a,b,zz,r,dd',h1,h2,h3,h4,h5,h6,h7,rfl⟩,by have:=h8.h;rwa [lA,lA] at this⟩
 | callc d s f sig aas=>
  simp only [zH,Ee] at h
  obtain ⟨gs,cs,rs,h1,h2,h3,h4,h5,h6,h7,h8⟩:=h
  rw [Ti] at h2 h5 h6
  rw [List.length_map] at h2 h5
  exact ⟨_,⟨gs,cs,rs,h1,h2,h3,h4,h5,h6,h7,rfl⟩,by have:=h8.h;rwa [lA] at this⟩
 | g s b d p=>exact h.elim
 | bxl d s b es off n=>obtain ⟨c,h1,h2⟩:=h;exact gn _ (.val c) h2 h1 Iff.rfl
 | bxs s b es off x=>obtain ⟨c,h1,h2⟩:=h;exact gn _ (.val c) h2 h1 Iff.rfl
 | slen d x=>
  simp only [zH] at h
  split at h
  ·rename_i s h1
   exact go d _ (by simp only [pstep,←bK,h1,dJ]) Iff.rfl h
  ·exact h.elim
 | sidx d x i=>
  simp only [zH] at h
  split at h
  ·rename_i s k n h1 h2
   obtain ⟨h3,hk⟩:=h
   have h4:n.toNat<s.size:=by omega
   exact gn d _ hk (by simp only [pstep,←bK,h1,h2,if_pos h3.1,dJ,bAt];rw [getElem?_pos s n.toNat h4];rfl) Iff.rfl
  ·exact h.elim
 | ssl d x lo hi=>
  simp only [zH] at h
  split at h
  ·rename_i s h1
   split at h
   ·rename_i a b h2 h3
    obtain ⟨⟨p1,p2,p3⟩,hk⟩:=h
    have e1:=MD (dft:=0) h2 p1
    have e2:=MD h3 (by omega)
    refine gn d _ hk ?_ Iff.rfl
    simp only [pstep,←bK,h1,e1,e2]
    exact if_pos ⟨by omega,by omega⟩
   ·exact h.elim
  ·exact h.elim
 | s2b d x=>
  simp only [zH] at h
  split at h
  ·rename_i s h1
   obtain ⟨h3,hk⟩:=h
   exact gn d _ hk (by simp only [pstep,←bK,h1];exact if_pos h3) Iff.rfl
  ·exact h.elim
 | b2s d x=>
  simp only [zH] at h
  split at h
  ·rename_i xs h1
   split at h
   ·rename_i t h2
    exact go d _ (by simp only [pstep,←bK,h1,h2,dJ]) Iff.rfl h
   ·exact h.elim
  ·exact h.elim
 | i2s d x=>
  simp only [zH] at h
  split at h
  ·rename_i k n h1
   obtain ⟨h3,hk⟩:=h
   exact gn d _ hk (by simp only [pstep,←bK,h1];exact if_pos h3) Iff.rfl
  ·exact h.elim

theorem wO (vs:List (List D)){E:Env}:∀ (fs:List Fr),Q (.ret vs) E→after Φ Q Ns fs (.ret vs) E
 | [],h=>h
 | .ss _::r,h=>wO vs r h
 | .pc _::r,h=>wO vs r h
 | .blk _::r,h=>wO vs r h
 | .lp _::r,h=>wO vs r h
theorem AI (id:Nat){E:Env}:∀ (fs:List Fr),unw id fs=none→Q (.exit id) E→after Φ Q Ns fs (.exit id) E
 | [],_,h=>h
 | .ss _::r,hu,h=>AI id r hu h
 | .pc _::r,hu,h=>AI id r hu h
 | .lp _::r,hu,h=>AI id r hu h
 | .blk j::r,hu,h=>by
  have hu:(match Nat.beq id j with | true=>some r | false=>unw id r)=none:=hu
  split at hu
  ·cases hu
  ·rename_i hb
   show (if id=j then _ else _)
   rw [if_neg (fun k=>by rw [k,Nat.beq_refl] at hb;cases hb)]
   exact AI id r hu h
theorem AJ (id:Nat){E:Env}{fs':List Fr}:∀ (fs:List Fr),unw id fs=some fs'→after Φ Q Ns fs' .normal E→after Φ Q Ns fs (.exit id) E
 | [],hu,_=>by cases hu
 | .ss _::r,hu,h=>AJ id r hu h
 | .pc _::r,hu,h=>AJ id r hu h
 | .lp _::r,hu,h=>AJ id r hu h
 | .blk j::r,hu,h=>by
  have hu:(match Nat.beq id j with | true=>some r | false=>unw id r)=some fs':=hu
  split at hu
  ·rename_i hb
   show (if id=j then _ else _)
   rw [if_pos (Nat.eq_of_beq_eq_true hb)]
   cases hu
   exact h
  ·rename_i hb
   show (if id=j then _ else _)
   rw [if_neg (fun k=>by rw [k,Nat.beq_refl] at hb;cases hb)]
   exact AJ id r hu h

theorem Xv {n:Nat}(ih:∀ (fs:List Fr) (l:Sm),Tk Φ Q Ns e (run n e fs l)→after Φ Q Ns fs .normal (ev l e))(s:Nat)(b:Bool)(d:Nat)(p:PS)(ps:List PS)(fs:List Fr)(l:Sm)
  (h:Tk Φ Q Ns e (run (n+1) e (.ss (.g s b d p::ps)::fs) l)):after Φ Q Ns (.ss (.g s b d p::ps)::fs) .normal (ev l e):=by
 have yes:ev l e s=[.bool b]→Tk Φ Q Ns e (zH e (.ss ps::fs) p l fun l=>run n e (.ss ps::fs) l)→after Φ Q Ns (.ss (.g s b d p::ps)::fs) .normal (ev l e):=fun hs h=>by
  obtain ⟨E1,h1,E2,h2,h3⟩:=Xu p l _ (fun l'=>ih _ l') h
  exact ⟨E2,⟨E1,.inl ⟨hs,h1⟩,h2⟩,h3⟩
 have no:ev l e s≠[.bool b]→Tk Φ Q Ns e (run n e (.ss ps::fs) ((d,.val [])::l))→after Φ Q Ns (.ss (.g s b d p::ps)::fs) .normal (ev l e):=fun hs h=>by
  obtain ⟨E2,h2,h3⟩:=ih _ _ h
  rw [lA] at h2
  exact ⟨E2,⟨_,.inr ⟨hs,rfl⟩,h2⟩,h3⟩
 have h:Tk Φ Q Ns e (gE (lm l e s) b (zH e (.ss ps::fs) p l fun l=>run n e (.ss ps::fs) l) (run n e (.ss ps::fs) ((d,.val [])::l)) fun t=> .ite t (.ss (.g s b d p::ps)::fs) ((s,.lit true)::l) (.ss (.g s b d p::ps)::fs) ((s,.lit false)::l)):=h
 cases hv:lm l e s with
 | lit v=>
  have hs:ev l e s=[.bool v]:=by show (lm l e s).cells=_;rw [hv];rfl
  rw [hv] at h
  cases v<;>cases b
  ·exact yes hs h
  ·exact no (by rw [hs];simp) h
  ·exact no (by rw [hs];simp) h
  ·exact yes hs h
 | val c=>
  rw [hv] at h
  have hs:ev l e s=c:=by show (lm l e s).cells=_;rw [hv];rfl
  by_cases h0:c=[]
  ·subst h0
   exact no (by rw [hs];simp) h
  ·by_cases h1:∃ t,c=[.bool t]
   ·obtain ⟨t,rfl⟩:=h1
    cases t with
    | true=>have:=(h.1 rfl).h;rwa [HA (by rw [hv];rfl)] at this
    | false=>have:=(h.2 rfl).h;rwa [HA (by rw [hv];rfl)] at this
   ·refine (?_:False).elim
    unfold gE at h
    split at h
    ·rename_i heq;cases heq
    ·rename_i heq;cases heq
    ·rename_i heq;cases heq;exact h1 ⟨_,rfl⟩
    ·rename_i heq;cases heq;exact h0 rfl
    ·exact h

theorem nR:∀ (n:Nat) (fs:List Fr) (l:Sm),Tk Φ Q Ns e (run n e fs l)→after Φ Q Ns fs .normal (ev l e)
 | 0,_,_,h=>h.elim
 | n+1,fs,l,h=>by
  have ih:=nR n
  cases fs with
  | nil=>exact h
  | cons f fs=>
  cases f with
  | blk id=>exact ih fs l h
  | lp k=>exact h
  | ss ps=>
   cases ps with
   | nil=>exact ⟨_,rfl,ih fs l h⟩
   | cons p ps=>
    by_cases hg:∃ s b d q,p= .g s b d q
    ·obtain ⟨s,b,d,q,rfl⟩:=hg
     exact Xv ih s b d q ps fs l h
    ·have h:Tk Φ Q Ns e (zH e (.ss ps::fs) p l fun l=>run n e (.ss ps::fs) l):=by
      cases p<;>first | exact h | exact (hg ⟨_,_,_,_,rfl⟩).elim
     obtain ⟨E1,h1,E2,h2,h3⟩:=Xu p l _ (fun l'=>ih _ l') h
     exact ⟨E2,⟨E1,h1,h2⟩,h3⟩
  | pc p=>
   cases p with
   | skip=>exact ih fs l h
   | fail=>exact h.elim
   | ss ps=>exact ih (.ss ps::fs) l h
   | seq a b=>
    have:=ih (.pc a:: .pc b::fs) l h
    refine gK a _ _ ?_ _ this
    intro x E hx
    cases x<;>exact hx
   | block id a=>
    have:=ih (.pc a:: .blk id::fs) l h
    refine gK a _ _ ?_ _ this
    intro x E hx
    cases x<;>exact hx
   | loop a=>exact h
   | exit id=>
    have h:Tk Φ Q Ns e (match unw id fs with | some fs'=>run n e fs' l | none=> .exit id l):=h
    split at h
    ·rename_i fs' hu;exact AJ id fs hu (ih _ _ h)
    ·rename_i hu;exact AI id fs hu h
   | ret rs=>
    have h:Tk Φ Q Ns e (fLs (Xs l e rs) fun vs=> .ret vs l):=h
    rw [Ee,Tj] at h
    exact wO _ fs h
   | cond c a b=>
    cases c with
    | t s=>
     have h:Tk Φ Q Ns e (match lm l e s with
      | .lit true=>run n e (.pc a::fs) l
      | .lit false=>run n e (.pc b::fs) l
      | .val [.bool t]=> .ite t (.pc a::fs) ((s,.lit true)::l) (.pc b::fs) ((s,.lit false)::l)
      | _=> .stuck):=h
     have hs:(lm l e s).cells=ev l e s:=rfl
     split at h
     ·rename_i hv;rw [hv] at hs;exact .inl ⟨hs.symm,ih _ _ h⟩
     ·rename_i hv;rw [hv] at hs;exact .inr ⟨hs.symm,ih _ _ h⟩
     ·rename_i t hv
      rw [hv] at hs
      cases t with
      | true=>have:=(h.1 rfl).h;rw [HA (by rw [hv];rfl)] at this;exact .inl ⟨hs.symm,this⟩
      | false=>have:=(h.2 rfl).h;rw [HA (by rw [hv];rfl)] at this;exact .inr ⟨hs.symm,this⟩
     ·exact h.elim
    | c d=>
     cases d with
     | bool v=>
      cases v with
      | true=>exact .inl ⟨rfl,ih _ _ h⟩
      | false=>exact .inr ⟨rfl,ih _ _ h⟩
     | _=>exact h.elim
end

noncomputable def agr (s:Sm)(E:Env):Prop:=List.rec (motive:=fun _=>Prop) True (fun p _ ih=>E p.1=p.2.cells∧ih) s
theorem Xw:∀ {s:Sm} {E:Env},agr s E→ev s E=E
 | [],_,_=>rfl
 | (d,c)::r,E,h=>by
  have h:E d=c.cells∧agr r E:=h
  rw [lA,Xw h.2,←h.1]
  funext k
  simp only [put]
  split
  ·rename_i h;rw [h]
  ·rfl

noncomputable def aDh (fs:List Fr)(n:Nat):Bool:=List.rec (motive:=fun _=>Bool) true (fun f _ ih=>match f with | .lp k=>Nat.ble (k+1) n&&ih | _=>ih) fs

section
variable {Φ:Ask}{Q:PX→Env→Prop}{Ns:List (Env→Prop)}{e:Env}{fs fs' fs2:List Fr}{l l' l2:Sm}

theorem gL (N:Env→Prop):∀ (fs:List Fr),aDh fs Ns.length=true→∀ (x:PX) (E:Env),after Φ Q (N::Ns) fs x E→after Φ Q Ns fs x E
 | [],_,_,_,h=>h
 | .ss ps::r,hl,x,E,h=>by
  cases x with
  | normal=>obtain ⟨E',h1,h2⟩:=h;exact ⟨E',h1,gL N r hl _ _ h2⟩
  | exit i=>exact gL N r hl _ _ h
  | ret v=>exact gL N r hl _ _ h
 | .pc p::r,hl,x,E,h=>by
  cases x with
  | normal=>exact gK p _ _ (fun x E hx=>gL N r hl x E hx) _ h
  | exit i=>exact gL N r hl _ _ h
  | ret v=>exact gL N r hl _ _ h
 | .blk id::r,hl,x,E,h=>by
  cases x with
  | normal=>exact gL N r hl _ _ h
  | exit i=>
   have h:(if i=id then after Φ Q (N::Ns) r .normal E else after Φ Q (N::Ns) r (.exit i) E):=h
   show (if i=id then after Φ Q Ns r .normal E else after Φ Q Ns r (.exit i) E)
   split<;>rename_i hi
   ·rw [if_pos hi] at h;exact gL N r hl _ _ h
   ·rw [if_neg hi] at h;exact gL N r hl _ _ h
  | ret v=>exact gL N r hl _ _ h
 | .lp k::r,hl,x,E,h=>by
  have hl:(Nat.ble (k+1) Ns.length&&aDh r Ns.length)=true:=hl
  rw [Bool.and_eq_true] at hl
  cases x with
  | normal=>
   have hk:=Nat.le_of_ble_eq_true hl.1
   have h:(match Nat.beq k Ns.length with | true=>N | false=>nxt Ns k) E:=h
   cases hb:Nat.beq k Ns.length with
   | true=>have:=Nat.eq_of_beq_eq_true hb;omega
   | false=>rw [hb] at h;exact h
  | exit i=>exact gL N r hl.2 _ _ h
  | ret v=>exact gL N r hl.2 _ _ h

theorem aB {P:Prop}(h:run 100000 e fs l= .need P fs' l')(hp:P)(hk:RunM Φ Q Ns e fs' l'):RunM Φ Q Ns e fs l:=⟨nR 100000 fs l (by rw [h];exact ⟨hp,hk⟩)⟩
theorem run_ite {t:Bool}(h:run 100000 e fs l= .ite t fs' l' fs2 l2)(h1:t=true→RunM Φ Q Ns e fs' l')(h2:t=false→RunM Φ Q Ns e fs2 l2):RunM Φ Q Ns e fs l:=⟨nR 100000 fs l (by rw [h];exact ⟨h1,h2⟩)⟩
theorem aA {f:Nat}{sig:Sig}{ins:List (List D)}{d:Nat}{r:List D}(h:run 100000 e fs l= .call f sig ins [] d fs' l')(hc:Φ f sig ins [r])(h1:1=sig.rs.length)(hk:RunM Φ Q Ns e fs' ((d,.val r)::l')):RunM Φ Q Ns e fs l:=
 ⟨nR 100000 fs l (by
  have hr:[r].flatten=r:=by simp
  rw [h]
  refine ⟨[r],[],hc,h1,rfl,?_⟩
  show RunM Φ Q Ns e fs' ((d,.val [r].flatten)::l')
  rw [hr];exact hk)⟩
theorem xU {f:Nat}{sig:Sig}{ins ins':List (List D)}{d:Nat}{r:List D}(h:run 100000 e fs l= .call f sig ins [] d fs' l')(hc:Φ f sig ins' [r])(hi:ins=ins')(h1:1=sig.rs.length)(hk:RunM Φ Q Ns e fs' ((d,.val r)::l')):RunM Φ Q Ns e fs l:=aA h (hi▸hc) h1 hk
theorem aEm {f:Nat}{sig:Sig}{ins ins' rs:List (List D)}{d:Nat}(h:run 100000 e fs l= .call f sig ins [] d fs' l')(hc:Φ f sig ins' rs)(hi:ins=ins')(h1:rs.length=sig.rs.length)(hk:RunM Φ Q Ns e fs' ((d,.val rs.flatten)::l')):RunM Φ Q Ns e fs l:=
 ⟨nR 100000 fs l (by rw [h];exact ⟨rs,[],by rw [hi];simpa using hc,h1,rfl,hk⟩)⟩
theorem Ui {f:Nat}{sig:Sig}{ins ins' rs xs:List (List D)}{bs:List Nat}{d:Nat}(h:run 100000 e fs l= .call f sig ins bs d fs' l')(hc:Φ f sig ins' (rs++xs))(hi:ins=ins')(h1:rs.length=sig.rs.length)(h2:xs.length=bs.length)(hk:RunM Φ Q Ns e fs' ((d,.val rs.flatten)::No l' bs xs)):RunM Φ Q Ns e fs l:=
 ⟨nR 100000 fs l (by rw [h];exact ⟨rs,xs,by rw [hi];exact hc,h1,h2,hk⟩)⟩
theorem aAo {f:Nat}{sig:Sig}{fn:List D}{ins:List (List D)}{d:Nat}(h:run 100000 e fs l= .callc f sig fn ins d fs' l')(hc:callcP Φ f sig fn ins fun rs=>RunM Φ Q Ns e fs' ((d,.val rs.flatten)::l')):RunM Φ Q Ns e fs l:=⟨nR 100000 fs l (by rw [h];exact hc)⟩
theorem lT {f:Nat}{sig:Sig}{gs:List (Bool×List D)}{cs ins ins':List (List D)}{d:Nat}{r:List D}(h:run 100000 e fs l= .callc f sig [.fn f gs cs] ins d fs' l')(hc:Φ f sig (gs.map (·.2)++ins'++cs) [r])(hi:ins=ins')
  (h1:(Nat.beq (gs.length+ins'.length+cs.length) sig.ps.length&&Nat.beq cs.length (ND sig.ps)&&kX (sig.ps.take gs.length) gs&&nK (sig.ps.drop (gs.length+ins'.length)) cs&&Nat.beq 1 sig.rs.length)=true)
  (hk:RunM Φ Q Ns e fs' ((d,.val r)::l')):RunM Φ Q Ns e fs l:=by
 subst hi
 simp only [Bool.and_eq_true] at h1
 obtain ⟨⟨⟨⟨a1,a2⟩,a3⟩,a4⟩,a5⟩:=h1
 refine aAo h ⟨gs,cs,[r],rfl,Nat.eq_of_beq_eq_true a1,Nat.eq_of_beq_eq_true a2,a3,a4,hc,Nat.eq_of_beq_eq_true a5,?_⟩
 have hr:[r].flatten=r:=by simp
 show RunM Φ Q Ns e fs' ((d,.val [r].flatten)::l')
 rw [hr];exact hk
theorem aGh {f:Nat}{sig:Sig}{xc yc hc xc' yc' r c z:List D}{hs i d:Nat}(h:run 100000 e fs l= .io f sig xc yc hc hs i d fs' l')(hx:(hc.drop i).take xc.length=xc)(hc':Φ f sig [xc',yc'] [r,c])(hi:xc=xc')(hi2:yc=yc')
  (hl:c.length=xc.length)(hz:cA hc i c=z)(hk:RunM Φ Q Ns e fs' ((d,.val r)::(hs,.val z)::l')):RunM Φ Q Ns e fs l:=by
 subst hi;subst hi2;subst hz
 exact ⟨nR 100000 fs l (by rw [h];exact ⟨r,c,hx,hc',hl,hk⟩)⟩
theorem aF2 {f:Nat}{sig:Sig}{pc yc yc' hc a b r z:List D}{xs ys zz:List (List D)}{k:IntKind}{n:Int}{dd':D}{hs i off d:Nat}(h:run 100000 e fs l= .ioe f sig pc yc hc hs i off d fs' l')
  (h1:pc=[.sl xs,.int k n])(h2:hc[i]? =some (.sl ys))(h3:xs[n.toNat]? =some a)(h4:ys[n.toNat]? =some b)(h5:a.length=b.length)(h6:b[off]? =some (.sl zz))(hc':Φ f sig [[.sl zz],yc'] [r,[dd']])(hi2:yc=yc')
  (hz:hc.set i (.sl (ys.set n.toNat (b.set off dd')))=z)(hk:RunM Φ Q Ns e fs' ((d,.val r)::(hs,.val z)::l')):RunM Φ Q Ns e fs l:=by
 subst hi2;subst hz
 exact ⟨nR 100000 fs l (by rw [h];exact ⟨xs,k,n,ys,a,b,zz,r,dd',h1,h2,h3,h4,h5,h6,hc',hk⟩)⟩
theorem Xx {p:PS}{c:List D}(h:run 100000 e fs l= .fb p fs' l')(hp:pstep p (ev l' e)=some (put (ev l' e) (dstOf p) c))(hk:RunM Φ Q Ns e fs' ((dstOf p,.val c)::l')):RunM Φ Q Ns e fs l:=⟨nR 100000 fs l (by rw [h];exact ⟨c,hp,hk⟩)⟩
theorem aN {k:Nat}(h:run 100000 e fs l= .next k l')(hn:nxt Ns k (ev l' e)):RunM Φ Q Ns e fs l:=⟨nR 100000 fs l (by rw [h];exact hn)⟩
theorem aE {outs vs:List (List D)}(h:run 100000 e fs l= .ret vs l')(hq:vs=outs):RunM Φ (aL outs) Ns e fs l:=⟨nR 100000 fs l (by rw [h];exact hq)⟩
theorem aO {a:PC}{X:Type}(h:run 100000 e fs l= .loop a fs' l')(P:X→Prop)(st:X→Sm)(mu:X→Nat)(x0:X)(hP:P x0)(h0:agr (st x0) (ev l' e))(hlp:aDh fs' Ns.length=true)
  (body:∀ x e,P x→RunM Φ Q ((fun E=>∃ x',mu x'<mu x∧P x'∧agr (st x') E)::Ns) e (.pc a:: .lp Ns.length::fs') (st x)):RunM Φ Q Ns e fs l:=by
 refine ⟨nR 100000 fs l ?_⟩
 rw [h]
 refine Nk (fun n E=>∃ x,mu x=n∧P x∧agr (st x) E) (mu x0) ⟨x0,rfl,hP,h0⟩ ?_
 rintro n E ⟨x,rfl,hx,ha⟩
 have hb:=(body x E hx).h
 rw [Xw ha] at hb
 refine gK a _ _ ?_ _ hb
 intro y E' hy
 cases y with
 | normal=>
  have hy:(match Nat.beq Ns.length Ns.length with | true=>fun E=>∃ x',mu x'<mu x∧P x'∧agr (st x') E | false=>nxt Ns Ns.length) E':=hy
  rw [Nat.beq_refl] at hy
  obtain ⟨x',h1,h2,h3⟩:=hy
  exact ⟨mu x',h1,x',rfl,h2,h3⟩
 | exit i=>exact gL _ fs' hlp _ _ hy
 | ret v=>exact gL _ fs' hlp _ _ hy

noncomputable def Np (k:Nat)(cs:List (List D)):Sm:=List.rec (motive:=fun _=>Nat→Sm) (fun _=>[]) (fun a _ ih k=>(k,.val a)::ih (Nat.succ k)) cs k
theorem Qc:∀ (k:Nat) (cs:List (List D)) (s:Nat),ev (Np k cs) (fun _=>[]) (k+s)=envL cs s
 | k,[],s=>by rw [Nj];rfl
 | k,a::r,s=>by
  have h:ev (Np k (a::r)) (fun _=>[])=put (ev (Np (k+1) r) (fun _=>[])) k a:=lA k (.val a) (Np (k+1) r) _
  rw [h,Eb]
  simp only [put]
  cases s with
  | zero=>simp
  | succ s=>rw [if_neg (by omega),if_neg (by omega),show k+(s+1)=(k+1)+s by omega,Qc (k+1) r s,Nat.add_sub_cancel]
theorem aH {p:PC}{ins outs:List (List D)}(h:RunM Φ (aL outs) [] (fun _=>[]) [.pc p] (Np 0 ins)):pwp Φ p (aL outs) (envL ins):=by
 have he:ev (Np 0 ins) (fun _=>[])=envL ins:=by
  funext s
  have:=Qc 0 ins s
  rwa [Nat.zero_add] at this
 have:=h.h
 rw [he] at this
 refine gK p _ _ ?_ _ this
 intro x E hx
 cases x<;>exact hx
end

def zB:=And.intro zA (And.intro @List.length_map.{0,0} (And.intro @ge_iff_le.{0} (And.intro @gt_iff_lt.{0} (And.intro @beq_iff_eq.{0} (And.intro @bne_iff_ne.{0} (And.intro @beq_eq_false_iff_ne.{0} (And.intro @bne_eq_false_iff_eq.{0} (And.intro @ne_eq.{1} (@beq_self_eq_true.{0})))))))))
theorem aF {Φ:Ask}{Q:PX→Env→Prop}{Ns:List (Env→Prop)}{e:Env}{fs fs':List Fr}{l l':Sm}{P:Prop}(h:run 100000 e fs l= .need P fs' l')(hk:RunM Φ Q Ns e fs' l')
  (hp:P:=by (try simp (disch:=omega) only [zB,eqDs,aT,Nat.reduceAdd,aC]);first | exact gT (by omega) (by first | omega | (simp only [List.length_set];omega)) (fun _=>rfl) | exact gU (by omega) (by first | omega | (simp only [List.length_set];omega)) (fun _=>rfl) | exact lH (by omega) (by omega) (by omega) rfl | exact lI (by omega) (fun _=>rfl) | exact cO (by omega) (fun _=>rfl) (fun _=>rfl) | exact cQ (by omega) (fun _=>rfl) rfl rfl | exact dZ (by omega) (fun _=>rfl) (fun _=>rfl)):RunM Φ Q Ns e fs l:=aB h hp hk
theorem aG {Φ:Ask}{Q:PX→Env→Prop}{Ns:List (Env→Prop)}{e:Env}{fs fs':List Fr}{l l':Sm}{P:Prop}(h:run 100000 e fs l= .need P fs' l')(hk:RunM Φ Q Ns e fs' l')
  (hp:P:=by first | decide | omega | (simp only [List.length_map];omega)):RunM Φ Q Ns e fs l:=aB h hp hk
theorem cE {Φ:Ask}{Q:PX→Env→Prop}{Ns:List (Env→Prop)}{e:Env}{fs fs':List Fr}{l l':Sm}{f:Nat}{sig:Sig}{ins ins':List (List D)}{d:Nat}{r:List D}(h:run 100000 e fs l= .call f sig ins [] d fs' l')(hc:Φ f sig ins' [r])(h1:1=sig.rs.length)(hk:RunM Φ Q Ns e fs' ((d,.val r)::l'))
  (hi:ins=ins':=by simp (disch:=omega) only [zB,eqDs,aT,Nat.reduceAdd,aC]):RunM Φ Q Ns e fs l:=xU h hc hi h1 hk
end
section

def aCe (G:List (List D)→Prop):PX→Env→Prop
 | .ret vs,_=>G vs
 | _,_=>False

theorem CP {Φ:Ask}{O:Type}:∀ (p:PC) (Q:O→PX→Env→Prop) (e:Env),pwp Φ p (fun x e=>∃ o,Q o x e) e→∃ o,pwp Φ p (Q o) e
 | .skip,_,_,h=>h
 | .fail,_,_,h=>h.elim
 | .ss _,_,_,h=>by
  obtain ⟨e',h1,o,h2⟩:=h
  exact ⟨o,e',h1,h2⟩
 | .seq a b,Q,e,h=>by
  have h1:pwp Φ a (fun x e=>∃ o,PX.then (pwp Φ b (Q o)) (Q o) x e) e:=by
   refine gK a _ _ ?_ e h
   intro x E hx
   cases x with
   | normal=>exact CP b Q E hx
   | exit i=>exact hx
   | ret v=>exact hx
  exact CP a (fun o=>PX.then (pwp Φ b (Q o)) (Q o)) e h1
 | .cond c a b,Q,e,h=>by
  rcases h with ⟨h1,h2⟩ | ⟨h1,h2⟩
  ·obtain ⟨o,h3⟩:=CP a Q e h2
   exact ⟨o,.inl ⟨h1,h3⟩⟩
  ·obtain ⟨o,h3⟩:=CP b Q e h2
   exact ⟨o,.inr ⟨h1,h3⟩⟩
 | .block id a,Q,e,h=>by
  have h1:pwp Φ a (fun x e=>∃ o,PX.inBlock id (Q o) x e) e:=by
   refine gK a _ _ ?_ e h
   intro x E hx
   cases x with
   | normal=>exact hx
   | exit i=>
    simp only [PX.inBlock] at hx ⊢
    by_cases hi:i=id
    ·simp only [if_pos hi] at hx ⊢;exact hx
    ·simp only [if_neg hi] at hx ⊢;exact hx
   | ret v=>exact hx
  exact CP a (fun o=>PX.inBlock id (Q o)) e h1
 | .loop a,Q,e,h=>by
  obtain ⟨n,hn⟩:=h
  have key:∀ (n:Nat) (e:Env),Nat.rec (motive:=fun _=>Env→Prop) (fun _=>False) (fun _ ih e=>pwp Φ a (PX.then ih (fun x e=>∃ o,Q o x e)) e) n e→
    ∃ o,Nat.rec (motive:=fun _=>Env→Prop) (fun _=>False) (fun _ ih e=>pwp Φ a (PX.then ih (Q o)) e) n e:=by
   intro n
   induction n with
   | zero=>intro e h;exact h.elim
   | succ n ih=>
    intro e h
    refine CP a (fun o=>PX.then (Nat.rec (motive:=fun _=>Env→Prop) (fun _=>False) (fun _ ih e=>pwp Φ a (PX.then ih (Q o)) e) n) (Q o)) e (gK a _ _ ?_ e h)
    intro x E hx
    cases x with
    | normal=>exact ih E hx
    | exit i=>exact hx
    | ret v=>exact hx
  obtain ⟨o,ho⟩:=key n e hn
  exact ⟨o,n,ho⟩
 | .exit _,_,_,h=>h
 | .ret _,_,_,h=>h

section
variable {Φ:Ask}
theorem aD {Ns:List (Env→Prop)}{e:Env}{fs:List Fr}{l l':Sm}{G:List (List D)→Prop}{vs:List (List D)}(h:run 100000 e fs l= .ret vs l')(hq:G vs):RunM Φ (aCe G) Ns e fs l:=⟨nR 100000 fs l (by rw [h];exact hq)⟩
theorem aEn {Q:PX→Env→Prop}{Ns:List (Env→Prop)}{e:Env}{fs fs':List Fr}{l l':Sm}{f:Nat}{sig:Sig}{ins ins':List (List D)}{bs:List Nat}{d:Nat}{G:List (List D)→Prop}
  (h:run 100000 e fs l= .call f sig ins bs d fs' l')(hc:∃ outs,G outs∧Φ f sig ins' outs)(hi:ins=ins')
  (hk:∀ outs,G outs→∃ rs xs,outs=rs++xs∧rs.length=sig.rs.length∧xs.length=bs.length∧RunM Φ Q Ns e fs' ((d,.val rs.flatten)::No l' bs xs)):RunM Φ Q Ns e fs l:=by
 obtain ⟨outs,h1,h2⟩:=hc
 obtain ⟨rs,xs,rfl,h3,h4,h5⟩:=hk outs h1
 exact Ui h h2 hi h3 h4 h5
theorem aFe {p:PC}{ins:List (List D)}{G:List (List D)→Prop}(h:RunM Φ (aCe G) [] (fun _=>[]) [.pc p] (Np 0 ins)):∃ outs,G outs∧pwp Φ p (aL outs) (envL ins):=by
 have he:ev (Np 0 ins) (fun _=>[])=envL ins:=by
  funext s
  have:=Qc 0 ins s
  rwa [Nat.zero_add] at this
 have:=h.h
 rw [he] at this
 obtain ⟨o,ho⟩:=CP p (fun (o:{o:List (List D) // G o })=>aL o.1) (envL ins) (gK p _ _ (fun x E hx=>by
  cases x with
  | ret vs=>exact ⟨⟨vs,hx⟩,rfl⟩
  | normal=>exact hx.elim
  | exit i=>exact hx.elim) _ this)
 exact ⟨o.1,o.2,ho⟩
end

end
section
open Go.ChangeShapes Go.WideShapes Go.ChangeAt Go.RowKit

def noOwn:Own:=fun _=>none
def topCx (w:World):Cx:=⟨fun g _=>g<w.heap.size,fun g _=>g<w.heap.size,fun g=>w.heap.size≤g⟩
def aGi:Wld:=⟨0,fun _=>True,fun _ _=>Nat.zero_le _,fun _ _ _ _ _ _=>trivial⟩
theorem Tm (w:World):WOk w noOwn (topCx w) noOwn w where
 kept:=Kept.refl _ _
 dom:=fun g i h=>by cases h
 n:=fun g=>⟨fun h=> .inl h,fun h=>h.elim id fun h=>absurd rfl h⟩
 s1:=fun g o h=>h
 s2:=fun g o h=>⟨h,fun ⟨i,b,h1,_⟩=>by cases h1⟩
 cl:=fun g o h1 ⟨i,b,h2,_⟩=>by cases h2
 inj:=fun g g' i j h=>by cases h

def Same (w w':World):Prop:=w'.os=w.os∧w'.output=w.output∧∀ g,g<w.heap.size→w'.heap[g]? =w.heap[g]?
theorem Tn {cx:Cx}{own':Own}{w w':World}(h:WOk w noOwn cx own' w'):Same w w':=⟨h.kept.os,h.kept.output,fun g hg=>h.kept.block g hg rfl⟩
theorem Uj {w w':World}(h:Same w w')(may:MemPlace→Prop):w.keptBut w' may:=by
 refine ⟨h.1,h.2.1,fun i hi=>?_⟩
 rw [h.2.2 i hi]
 cases w.heap[i]? with
 | none=>rfl
 | some o=>cases o<;>simp
theorem Uk {w w':World}(h:Same w w'){b o:Nat}(hb:b<w.heap.size):w'.cell? ⟨b,o,none⟩=w.cell? ⟨b,o,none⟩:=by
 unfold World.cell?
 simp only [h.2.2 b hb]
theorem Nq {w w':World}(h:Same w w'){a:Addr}(hb:a.block<w.heap.size):w'.frozen? a=w.frozen? a:=by
 unfold World.frozen?
 rw [h.2.2 a.block hb]

section
variable {H:Type}{enc:TypeId×Value→H}{P:Program}

structure ByteArg (P:Program) (enc:TypeId×Value→H) (W:World) (t:TypeId) (v:Value) (d:DataW H) (p:List MemPlace) (bs:List Int):Prop where
 one:Cell1 v
 byt:∀ x∈bs,0≤x∧x≤255
 rep:Rep W (RS (topCx W) noOwn) (.sl (bs.map fun x=>[.int .u8 x])) v
 back:∀ W',Same W W'→∀ sp:Nat→Bool,(∀ q∈p,sp q.block=true)→DataW.Trod enc P W' 0 sp true t v d p

theorem Xy {W:World}{t e:TypeId}{v:Value}{d:DataW H}{p:List MemPlace}(ht:P.underlying t=some (.slice e))(he:P.underlying e=some (.int .u8))(hc:P.cellsOf e=1)
  (hs:∃ a len cap,v= .slice a len cap)(hlt:∀ q∈p,q.block<W.heap.size)(h:DataW.Trod enc P W 0 (fun _=>true) true t v d p):∃ bs,ByteArg P enc W t v d p bs:=by
 obtain ⟨a0,l0,c0,rfl⟩:=hs
 obtain ⟨fuel,hf⟩:=h
 have h1:Cell1 (Value.slice a0 l0 c0):=⟨fun c h=>(by cases h),fun c h=>(by cases h)⟩
 rcases open_ints ht he hc hf with ⟨hcs,hx⟩ | ⟨a,len,cap,zs,hcs,_,hl,hm,hz,hx,hcell,hw⟩
 ·simp [Value.cells] at hcs
  obtain ⟨rfl,rfl,rfl⟩:=hcs
  simp only [Prod.mk.injEq] at hx
  obtain ⟨rfl,rfl⟩:=hx
  exact ⟨[],h1,fun x hx=>(by cases hx),.nil none 0,fun W' _ sp _=>shut_slice_nil ht⟩
 ·simp [Value.cells] at hcs
  obtain ⟨rfl,rfl,rfl⟩:=hcs
  simp only [Prod.mk.injEq] at hx
  obtain ⟨rfl,rfl⟩:=hx
  simp only [if_true] at hz
  have hb:∀ x∈zs,0≤x∧x≤255:=fun x hx=>by
   have:=hw x hx
   simp only [Lit.wf,Bool.and_eq_true,decide_eq_true_eq] at this
   have e1:IntKind.u8.min=0:=rfl
   have e2:IntKind.u8.max=255:=rfl
   omega
  refine ⟨zs.take l0,h1,fun x hx=>hb x (List.mem_of_mem_take hx),?_,fun W' hW sp hsp=>?_⟩
  ·by_cases hl0:l0=0
   ·subst hl0
    exact .nil (some a) c0
   ·obtain ⟨b,o,spot⟩:=a
    have hspot:spot=none:=by simpa [Addr.add] using World.cell?_spot (hcell 0 (by omega))
    subst hspot
    have hlen:((zs.take l0).map fun x=>([.int .u8 x]:List D)).length=l0:=by simp;omega
    have key:∀ (i:Nat) (x:List D) (j:Nat) (d:D),((zs.take l0).map fun x=>([.int .u8 x]:List D))[i]? =some x→x[j]? =some d→i<l0∧j=0∧d= .int .u8 (zs.getD i 0):=by
     intro i x j d hx hd
     have hi:i<l0:=by
      have:=(List.getElem?_eq_some_iff.1 hx).1
      omega
     rw [List.getElem?_map,List.getElem?_take_of_lt hi,List.getElem?_eq_getElem (by omega)] at hx
     simp only [Option.map_some,Option.some.injEq] at hx
     subst hx
     cases j with
     | zero=>
      simp only [List.getElem?_cons_zero,Option.some.injEq] at hd
      refine ⟨hi,rfl,?_⟩
      rw [←hd]
      simp [List.getD,show i<zs.length by omega]
     | succ j=>simp at hd
    have hrep:=Rep.sl (w:=W) (S:=RS (topCx W) noOwn) ((zs.take l0).map fun x=>([.int .u8 x]:List D)) b o 1 c0 (fun i _=> .int .u8 (zs.getD i 0)) (by rw [hlen];exact hl)
     (fun x hx=>by obtain ⟨z,_,rfl⟩:=List.mem_map.1 hx;rfl)
     (fun i x j d hx hd=>by
      obtain ⟨k1,rfl,rfl⟩:=key i x j d hx hd
      have:=hcell i (by omega)
      rw [add_plain] at this
      rw [show o+i*1+0=o+i by omega]
      exact this)
     (fun i x j d hx hd=>by
      obtain ⟨k1,rfl,rfl⟩:=key i x j d hx hd
      exact ⟨rfl,.inl (hlt (.cell b (o+i)) (MemPlace.mem_row.2 ⟨i,by omega,rfl⟩))⟩)
     (fun i x j d hx hd=>by
      obtain ⟨k1,rfl,rfl⟩:=key i x j d hx hd
      exact .scal (.int .u8 _))
    rw [hlen] at hrep
    exact hrep
  ·have hcell':∀ i,i<zs.length→W'.cell? (a.add i)=some (.int .u8 (zs.getD i 0)):=fun i hi=>by
    have h2:=hcell i hi
    obtain ⟨b,o,spot⟩:=a
    have hspot:spot=none:=by simpa [Addr.add] using World.cell?_spot (hcell 0 (by omega))
    subst hspot
    rw [add_plain] at h2 ⊢
    have hbb:b<W.heap.size:=hlt (.cell b (o+i)) (MemPlace.mem_row.2 ⟨i,hi,rfl⟩)
    rw [Uk hW hbb]
    exact h2
   by_cases hz0:zs.length=0
   ·have hc0:c0=0:=by omega
    have hl0:l0=0:=by omega
    subst hc0;subst hl0
    have t0:=shut_ints (enc:=enc) (w:=W') (base:=0) (spare:=sp) (held:=true) (a:=a) (len:=0) (cap:=0) (zs:=zs) 0 ht he hc (Nat.zero_le _) (Nat.le_refl _) hm (by simp [hz0]) hcell' hw
    exact ⟨2,by simpa [Value.cells] using t0⟩
   ·have hspb:sp a.block=true:=hsp (.cell a.block a.off) (MemPlace.mem_row.2 ⟨0,by omega,by simp⟩)
    have t0:=shut_ints (enc:=enc) (w:=W') (base:=0) (spare:=sp) (held:=true) (a:=a) (len:=l0) (cap:=c0) (zs:=zs) 0 ht he hc (Nat.zero_le _) hl hm (by simp [hspb,hz]) hcell' hw
    exact ⟨2,by simpa [Value.cells] using t0⟩

theorem Kx {f:Func}{s:ChangeSpec}{apart fresh handsOn again:Bool}{W W':World}{args:Array Value}{v:Value}{ds gs:List (DataW H)}{before pa pv:List MemPlace}
  (hW:DataW.Whole enc P f.params.toList s.vars apart W args.toList ds gs before)(hS:Same W W')
  (hres:∀ (b:Nat) (sp:Nat→Bool) (hd:Bool),DataW.TrodAll enc P W' b sp hd f.resultTypes.toList (v.resultList f.resultTypes.size) (s.fn H (ds++gs)).results [])
  (hargs:∀ sp:Nat→Bool,(∀ p∈before,sp p.block=true)→DataW.TrodAll enc P W' 0 sp true f.params.toList args.toList (s.fn H (ds++gs)).args pa)
  (hvars:∀ sp:Nat→Bool,(∀ p∈before,sp p.block=true)→DataW.TrodVars enc P W' sp s.vars (s.fn H (ds++gs)).vars pv)
  (hps:before=pa++pv)
  (hok:∀ (j:Nat) (t:TypeId) (r:Value),f.resultTypes[j]? =some t→(v.resultList f.resultTypes.size)[j]? =some r→Value.okWide P W' .any 0 t r):
  s.post enc P f apart fresh handsOn again W args v W':=by
 have hold:∀ p∈before,(fun b=>decide (b<W.heap.size)) p.block=true:=fun p hp=>by simpa using hW.lt p hp
 refine ⟨ds,gs,before,[],pa,pv,hW,hres _ _ _,hargs _ hold,hvars _ hold,Uj hS _,fun _=>?_⟩
 have hlt:=hW.lt
 obtain ⟨_,_,_,_,_,hz,hn⟩:=hW
 refine ⟨hok,_,_,([]++pa)++pv,⟨[]++pa,pv,trodAll_append (hargs _ (fun _ _=>rfl)) (hres _ _ _),hvars _ (fun _ _=>rfl),rfl,?_,?_⟩,?_⟩
 ·intro b off hp
  have hp':MemPlace.cell b off∈before:=by rw [hps];simpa using hp
  rw [Nq hS (hlt _ hp')]
  exact hz b off hp'
 ·intro ha
  have:=hn ha
  rw [hps] at this
  simpa using this
 ·intro p hp _
  rw [hps]
  simpa using hp
end

theorem aHn {T:Wld}{H:Type}{enc:TypeId×Value→H}{P:Program}{f:Nat}{fn:Func}{s:ChangeSpec}{apart fresh handsOn again:Bool}{W:World}{args:Array Value}{base:Nat}{ds gs:List (DataW H)}{before:List MemPlace}{t u e:TypeId}
  (hpa:fn.params=#[t])(hrt:fn.resultTypes=#[u])(hu:P.underlying u=some .bool)(ht:P.underlying t=some (.slice e))(he:P.underlying e=some (.int .u8))(hc:P.cellsOf e=1)(hv:s.vars=[])
  (hfn:∀ d:DataW H,(s.fn H [d]).results=[.lit (.bool true)]∧(s.fn H [d]).args=[d]∧(s.fn H [d]).vars=[])
  (hf:∀ bs:List Int,(∀ x∈bs,0≤x∧x≤255)→FunOk P T f ⟨[.v false [.r]],[.v false [.s]]⟩ [[.sl (bs.map fun x=>[.int .u8 x])]] [[.bool true]])
  (hval:∀ (j:Nat) t v,fn.params[j]? =some t→args[j]? =some v→Value.okWide P W .any base t v)
  (hW:DataW.Whole enc P fn.params.toList s.vars apart W args.toList ds gs before)(hT:T.P W:=by exact trivial):
  Calls P f args W fun e W'=>∃ v,e= .returned v∧s.post enc P fn apart fresh handsOn again W args v W':=by
 have hW':=hW
 have hlt:=hW.lt
 obtain ⟨p,q,hA,hV,rfl,hfz,hnd⟩:=hW
 rw [hv] at hV
 rw [hpa] at hA hval
 obtain ⟨v0,d0,rfl,rfl,h0⟩:=trodAll_one hA
 obtain ⟨rfl,rfl⟩:=trodVars_none hV
 obtain ⟨bs,hb⟩:=Xy ht he hc (okWide_slice ht (hval 0 t v0 rfl rfl)) (fun q hq=>hlt q (by simpa using hq)) h0
 obtain ⟨_,hrun⟩:=hf bs hb.byt
 refine (hrun W noOwn (topCx W) [v0] hT (Tm W) (fun g i h=>by cases h) rfl rfl ?_).mono ?_
 ·intro x hx
  simp only [rQ,CG,xH,List.mem_singleton] at hx
  subst hx
  refine ⟨[v0],rfl,fun _=>rfl,rfl,rfl,fun i c d v hc hd hv=>?_⟩
  cases i with
  | zero=>
   simp only [List.getElem?_cons_zero,Option.some.injEq] at hc hv
   subst hc;subst hv
   have hd:some (D.sl (bs.map fun x=>[D.int .u8 x]))=some d:=hd
   simp only [Option.some.injEq] at hd
   subst hd
   exact ⟨hb.one,hb.rep⟩
  | succ i=>simp at hc
 ·rintro en W' ⟨v,own',rfl,hwok,hres⟩
  have hS:=Tn hwok
  obtain ⟨hlen,rv,hrl,rfl,hr,_⟩:=hres
  match rv,hrl with
  | [r],_=>
   obtain ⟨vs,h1,h2,h3⟩:=hr 0 (.v false [.s]) rfl
   have hvl:=h2 rfl
   match vs,hvl with
   | [x],_=>
    have hx:r=x:=h1
    subst hx
    obtain ⟨_,hsc⟩:=h3.2.2 0 .s (.bool true) r rfl rfl rfl
    have hrb:r= .bool true:=by cases hsc;rfl
    subst hrb
    obtain ⟨e1,e2,e3⟩:=hfn d0
    refine ⟨_,rfl,Kx (pa:=p) (pv:=[]) (by rw [List.append_nil] at hW';exact hW') hS (fun b sp hd=>?_) (fun sp hsp=>?_) (fun sp hsp=>?_) (by simp) ?_⟩
    ·rw [List.append_nil,e1,hrt]
     exact trodAll_mk1 (shut_bool hu true)
    ·rw [List.append_nil,e2,hpa]
     exact trodAll_mk1 (hb.back W' hS sp (fun q hq=>hsp q (by simpa using hq)))
    ·rw [List.append_nil,e3,hv]
     exact rfl
    ·exact ok_one hrt rfl (okWide_bool_mk hu true)

end
section

section
variable {P:Program}{C:Cfg}{W:Wld}{T0:Nat→Value}{w0:World}{own0:Own}{cx:Cx}{Φ:Ask}{F:Fin}{ops:Array Oper}{Q:Exit→Act→World→Prop}

theorem Xz (hC:CfgOk P C){f:Nat}{fn:Func}(hf:P.funcs[f]? =some fn)(hname:(fn.name=="runtime.NumGoroutine")=false){sig:Sig}(hfine:sig.fine=true)
  (hn:fn.ntmps=C.n)(hnp:Nat.ble sig.ps.length C.n=true)(hpin:(boxPs sig.ps 0).all (fun p=>C.pin.any (Nat.beq p.1))=true){c:Code}(hbody:fn.body=some c){ins outs:List (List D)}{ex:List (Nat×St)}
  (hwp:∀ {w:World} {own:Own} {cx:Cx} {vals:List Value} {a:Act},W.P w→(∀ g i,own g=some i→W.G≤g)→Now C (tvL vals) w own cx (rQ sig) own (envL ins) a w→
   c.wp P (Lx C ⟨fn.results.toList,sig⟩ (tvL vals) w own cx none ex (aL outs)) a w):FunOk P W f sig ins outs:=by
 refine ⟨⟨fn,hf,hname,by rw [hbody];rfl⟩,fun w own cx vals hP hw hlow hvl hil hinv=>?_⟩
 let a0:Act:={tmps:=vals.toArray++Array.replicate (fn.ntmps - vals.toArray.size) undef,defers:=[] }
 have htv:tvA a0=tvL vals:=by
  funext k
  show (vals.toArray++Array.replicate (fn.ntmps - vals.toArray.size) undef).getD k undef=vals.getD k undef
  rw [Array.getD_eq_getD_getElem?,List.getD_eq_getElem?_getD]
  by_cases hk:k<vals.length
  ·rw [Array.getElem?_append_left (by simpa using hk)]
   simp
  ·rw [Array.getElem?_append_right (by simpa using hk),List.getElem?_eq_none (by omega),Array.getElem?_replicate]
   split<;>rfl
 have hsz:a0.tmps.size=C.n:=by
  show (vals.toArray++Array.replicate (fn.ntmps - vals.toArray.size) undef).size=C.n
  have:sig.ps.length≤C.n:=Nat.le_of_ble_eq_true hnp
  simp
  omega
 have hN:Now C (tvL vals) w own cx (rQ sig) own (envL ins) a0 w:=⟨hw,by rw [htv];exact hinv,hsz,rfl,fun k _=>by rw [htv]⟩
 refine calls_of_wp hf hbody ?_
 refine wp_mono (hwp hP (fun g i hi=>(hlow g i hi).1) hN) (fun e a w h=>?_)
 cases e with
 | normal=>
  obtain ⟨T,_,_,q1,_⟩:=h
  cases q1
 | ret=>
  obtain ⟨S,l,R,own',env,q1,q2,q3⟩:=h
  obtain ⟨v,k1,own2,k2,k3⟩:=XV hC q1 hfine q2 q2.wok hpin
  have h3':l.map env=outs:=q3
  rw [h3'] at k3
  exact ⟨q2.defers,v,k1,v,own2,rfl,k2,k3⟩
 | exit id=>
  obtain ⟨T,own',env,_,_,q3⟩:=h
  exact q3.elim
 | _=>exact h.elim

theorem YA {S:St}{i d s:Nat}{t t2:TypeId}{e:TypeId}{o:Oper}{c:CS}{own:Own}{env:Env}{a:Act}{w:World}{xs:List (List D)}(ho:ops[i]? =some o)(hop:o.op= .binOp .eql t (.tmp s) (.const (.slice none 0 0)) t2)(hod:o.dst=some d)(hgd:o.guard=none)
  (ht:P.underlying t=some (.slice e))(hsh:look S s= .v false [c])(hc:c= .b∨c= .r)(hd:d<C.n)(hpin:C.pin.any (Nat.beq d)=false)(hN:Now C T0 w0 own0 cx S own env a w)(hs:env s=[.sl xs]){K:Act→World→Prop}
  (hK:∀ b own' w' a',(b=true→xs=[])→Now C T0 w0 own0 cx (({dst:=some (d,.v false [.s]) }:Up).run S) own' (put env d [.bool b]) a' w'→K a' w'):wpOp P ops Q i K a w:=by
 unfold wpOp
 rw [ho]
 simp only
 rw [if_pos (uY hgd)]
 left
 have hl:=hN.inv.look s
 rw [hsh] at hl
 obtain ⟨vs,h1,h2,h3⟩:=hl
 have hvl:=h2 rfl
 match vs,hvl with
 | [v],_=>
  have hv:a.eval (.tmp s)=v:=h1
  have hcell:=h3.2.2 0 c (.sl xs) v rfl (by rw [hs];rfl) rfl
  have hv2:∃ A l k,v= .slice A l k∧(A=none→xs=[]):=by
   rcases hc with rfl | rfl
   ·obtain ⟨_,hr⟩:=hcell
    have hr:Rep w (BS cx own) (.sl xs) v:=hr
    cases hr with
    | scal h=>cases h
    | nil A cap=>exact ⟨A,0,cap,rfl,fun _=>rfl⟩
    | sl xs g off sz cap vs _ _ _ _ _=>exact ⟨_,_,_,rfl,fun h=>by cases h⟩
   ·obtain ⟨_,hr⟩:=hcell
    have hr:Rep w (RS cx own) (.sl xs) v:=hr
    cases hr with
    | scal h=>cases h
    | nil A cap=>exact ⟨A,0,cap,rfl,fun _=>rfl⟩
    | sl xs g off sz cap vs _ _ _ _ _=>exact ⟨_,_,_,rfl,fun h=>by cases h⟩
  obtain ⟨A,l,k,rfl,hnil⟩:=hv2
  have hrun:jL P cx own w a env o {dst:=some (d,.v false [.s]) } (put env d [.bool A.isNone]):=by
   refine hZ hN.wok hod (by rw [hN.size];exact hd) (fun w2=>?_) (.bool _)
   unfold execOp
   have hg:(eqGuard .eql t (.tmp s) (.const (.slice none 0 0)) (.slice A l k) (.slice none 0 0)).run P w2= .ok () w2:=by simp [eqGuard]
   have hv0:a.eval (.const (.slice none 0 0))= .slice none 0 0:=rfl
   simp only [hop,hv,hv0,Sem.run_bind,hg,Result.andThen_ok,Lib.run_eql_slice_nil w2 t e A l k 0 0 ht,Sem.run_pure]
  refine hrun.opOk K Q (fun own' w' a' hD=>hK A.isNone own' w' a' (fun hb=>hnil (by cases A with | none=>rfl | some x=>cases hb)) (hN.done hD ?_))
  intro d' sh' h
  simp only [Option.some.injEq,Prod.mk.injEq] at h
  rw [←h.1];exact hpin

structure NilC (C:Cfg) (F:Fin) (S:St) (r0 cd rest:Code) (ops:Array Oper) (pc0:PC) (p0:PS) (s d:Nat) (pcc pcr:PC):Prop where
 T:∃ (T T1 Tc:St) (o:Oper) (t t2 e:TypeId) (c:CS) (exc exr:List (Nat×St)),cCode C F r0 S=some ⟨pc0,some T,[]⟩∧cSeq C ops [0] T=some (T1,[p0])∧ops.size=2∧ops[1]? =some o∧
  o.op= .binOp .eql t (.tmp s) (.const (.slice none 0 0)) t2∧o.dst=some d∧o.guard=none∧(∃ ti,C.ty t=some ti∧ti.desc= .slice e)∧look T1 s= .v false [c]∧(c= .b∨c= .r)∧d<C.n∧C.pin.any (Nat.beq d)=false∧
  cCode C F cd (({dst:=some (d,.v false [.s]) }:Up).run T1)=some ⟨pcc,some Tc,exc⟩∧cCode C F rest Tc=some ⟨pcr,none,exr⟩

theorem aAp (hC:CfgOk P C)(hE:EqOk P C)(hm:P.follows .mixedOrders=true){f:Nat}{fn:Func}(hf:P.funcs[f]? =some fn)(hname:(fn.name=="runtime.NumGoroutine")=false){sig:Sig}(hfine:sig.fine=true)
  (hn:fn.ntmps=C.n)(hnp:Nat.ble sig.ps.length C.n=true)(hpin:(boxPs sig.ps 0).all (fun p=>C.pin.any (Nat.beq p.1))=true){r0 cd rest:Code}{id:Nat}{pc0 pcc pcr:PC}{p0:PS}{s d:Nat}
  (hbody:fn.body=some (.seq r0 (.seq (.seq (.region id ops false) cd) rest)))(hc:NilC C ⟨fn.results.toList,sig⟩ (rQ sig) r0 cd rest ops pc0 p0 s d pcc pcr){ins outs:List (List D)}
  (hp:pwp (FunOk P W) pc0 (fun x e=>x= .normal∧∃ e1 xs,cG (FunOk P W) p0 e e1∧e1 s=[.sl xs]∧∀ b,(b=true→xs=[])→pwp (FunOk P W) pcc (PX.then (pwp (FunOk P W) pcr (aL outs)) (aL outs)) (put e1 d [.bool b])) (envL ins)):
  FunOk P W f sig ins outs:=by
 obtain ⟨T,T1,Tc,o,t,t2,e,c,exc,exr,h0,h1,hsz2,ho,hop,hod,hgd,⟨ti,hti,hde⟩,hsh,hcc,hd,hpd,h2,h3⟩:=hc.T
 refine Xz (ex:=exc++exr) hC hf hname hfine hn hnp hpin hbody (fun {w own cx vals a} hP hlow hN=>?_)
 have X:Ctx P C W w own (FunOk P W):=⟨hC,hE,fun _ _ _ _ h=>h,hP,hlow,hm⟩
 refine wp_seq (wp_mono (rZ X h0 hN hp) (fun en a w h=>?_))
 cases en with
 | normal=>
  obtain ⟨T',BT,env1,q1,q2,_,e1,xs,q3,q4,q5⟩:=h
  simp only [Option.some.injEq] at q1
  subst q1
  refine wp_seq (wp_seq (wp_region ?_))
  rw [hsz2]
  show wpOps P ops _ [0,1] a w
  unfold cSeq at h1
  split at h1
  ·cases h1
  rename_i S1 p hst
  simp only [cSeq,Option.some.injEq,Prod.mk.injEq,List.cons.injEq,and_true] at h1
  obtain ⟨rfl,rfl⟩:=h1
  rw [wpOps_cons]
  refine Gv X hst q2 q3 (fun own2 w2 a2 hN2=>?_)
  rw [wpOps_cons]
  refine YA ho hop hod hgd ((hC t ti hti).slice hde) hsh hcc hd hpd hN2 q4 (fun b own3 w3 a3 hb hN3=>?_)
  show (Code.wp P cd _ a3 w3)
  refine wp_mono (rZ X h2 hN3 (q5 b hb)) (fun en a w h=>?_)
  cases en with
  | normal=>
   obtain ⟨T',own',env',q1,q2,q3⟩:=h
   simp only [Option.some.injEq] at q1
   subst q1
   exact wp_mono (rZ X h3 q2 q3) (fun en a w h=>Lx.mono (fun T e=>⟨T,e,.refl T⟩) (fun p hp=>List.mem_append_right _ hp) (fun _ _ h=>h) h)
  | exit id=>
   obtain ⟨T',own',env',q1,q2,q3⟩:=h
   exact ⟨T',own',env',List.mem_append_left _ q1,q2,q3⟩
  | ret=>exact h
  | _=>exact h
 | exit id=>
  obtain ⟨T',own',env',q1,q2,q3,_⟩:=h
  cases q3
 | ret=>
  obtain ⟨S,l,R,own',env,q1,q2,q3,_⟩:=h
  cases q3
 | _=>exact h.elim
end

def aDi:CS→Bool
 | .b=>true
 | .r=>true
 | _=>false
theorem aAq {c:CS}(h:aDi c=true):c= .b∨c= .r:=by
 cases c<;>simp_all [aDi]

def YB (C:Cfg)(f:Func)(sig:Sig):Option (PC×PS×Nat×Nat×PC×PC):=
 match Nat.beq f.ntmps C.n&&Nat.ble sig.ps.length C.n&&(boxPs sig.ps 0).all (fun p=>C.pin.any (Nat.beq p.1)) with
 | false=>none
 | true=>match f.body with
  | some (.seq r0 (.seq (.seq (.region _ ops false) cd) rest))=>match cCode C ⟨f.results.toList,sig⟩ r0 (rQ sig) with
   | some ⟨pc0,some T,[]⟩=>match cSeq C ops [0] T with
    | some (T1,[p0])=>match ops[1]? with
     | some o=>match o.op,o.dst,o.guard with
      | .binOp .eql t (.tmp s) (.const (.slice none 0 0)) _,some d,none=>match C.ty t with
       | some ti=>match ti.desc,look T1 s with
        | .slice _,.v false [c]=>match aDi c&&Nat.ble (d+1) C.n&& !C.pin.any (Nat.beq d)&&Nat.beq ops.size 2 with
         | true=>match cCode C ⟨f.results.toList,sig⟩ cd (({dst:=some (d,.v false [.s]) }:Up).run T1) with
          | some ⟨pcc,some Tc,_⟩=>match cCode C ⟨f.results.toList,sig⟩ rest Tc with
           | some ⟨pcr,none,_⟩=>some (pc0,p0,s,d,pcc,pcr)
           | _=>none
          | _=>none
         | false=>none
        | _,_=>none
       | none=>none
      | _,_,_=>none
     | none=>none
    | _=>none
   | _=>none
  | _=>none

section
variable {P:Program}{C:Cfg}{W:Wld}
theorem aEo (hC:CfgOk P C)(hE:EqOk P C)(hm:P.follows .mixedOrders=true){f:Nat}{fn:Func}(hf:P.funcs[f]? =some fn)(hname:(fn.name=="runtime.NumGoroutine")=false){sig:Sig}(hfine:sig.fine=true)
  {pc0 pcc pcr:PC}{p0:PS}{s d:Nat}(hc:YB C fn sig=some (pc0,p0,s,d,pcc,pcr)){ins outs:List (List D)}
  (hp:pwp (FunOk P W) pc0 (fun x e=>x= .normal∧∃ e1 xs,cG (FunOk P W) p0 e e1∧e1 s=[.sl xs]∧∀ b,(b=true→xs=[])→pwp (FunOk P W) pcc (PX.then (pwp (FunOk P W) pcr (aL outs)) (aL outs)) (put e1 d [.bool b])) (envL ins)):
  FunOk P W f sig ins outs:=by
 unfold YB at hc
 split at hc
 ·cases hc
 rename_i hk
 simp only [Bool.and_eq_true,dY] at hk
 obtain ⟨⟨k1,k2⟩,k3⟩:=hk
 split at hc
 rotate_left
 ·cases hc
 rename_i r0 id ops cd rest hbody
 split at hc
 rotate_left
 ·cases hc
 rename_i pc0' T h0
 split at hc
 rotate_left
 ·cases hc
 rename_i T1 p0' h1
 split at hc
 rotate_left
 ·cases hc
 rename_i o ho
 split at hc
 rotate_left
 ·cases hc
 rename_i t s' t2 d' hop hod hgd
 split at hc
 rotate_left
 ·cases hc
 rename_i ti hti
 split at hc
 rotate_left
 ·cases hc
 rename_i e c hde hsh
 split at hc
 rotate_left
 ·cases hc
 rename_i hb
 simp only [Bool.and_eq_true,Bool.not_eq_true',dY] at hb
 obtain ⟨⟨⟨b1,b2⟩,b3⟩,b4⟩:=hb
 split at hc
 rotate_left
 ·cases hc
 rename_i pcc' Tc exc h2
 split at hc
 rotate_left
 ·cases hc
 rename_i pcr' exr h3
 simp only [Option.some.injEq,Prod.mk.injEq] at hc
 obtain ⟨rfl,rfl,rfl,rfl,rfl,rfl⟩:=hc
 exact aAp hC hE hm hf hname hfine k1 k2 k3 hbody ⟨⟨T,T1,Tc,o,t,t2,e,c,exc,exr,h0,h1,b4,ho,hop,hod,hgd,⟨ti,hti,hde⟩,hsh,aAq b1,Nat.le_of_ble_eq_true b2,b3,h2,h3⟩⟩ hp
end

end
section

def aFf:Sh→Option (Nat×Nat×Bool×Fz)
 | .v false [.al h k m f]=>some (h,k,m,f)
 | _=>none

def To (C:Cfg)(fn:Func)(sig:Sig):Option (PC×List PS×Nat×Nat×Nat×Nat×List PS×PC):=
 match Nat.beq fn.ntmps C.n&&Nat.ble sig.ps.length C.n&&(boxPs sig.ps 0).all (fun p=>C.pin.any (Nat.beq p.1)) with
 | false=>none
 | true=>match fn.body with
  | some (.seq r0 (.seq (.region _ ops false) rest))=>match cCode C ⟨fn.results.toList,sig⟩ r0 (rQ sig) with
   | some ⟨pc0,some T,[]⟩=>match cSeq C ops [0,1,2,3,4] T with
    | some (T1,ps1)=>match ops[5]? with
     | some o=>match o.op,o.dst,o.guard with
      | .slice t (.tmp s) none (some (.tmp h)) (some (.tmp m)),some d,none=>match C.ty t with
       | some ti=>match ti.desc with
        | .slice e=>match C.ty e with
         | some ei=>match aFf (look T1 s) with
          | some (hh,kk,mm,f)=>match scal (look T1) none (.tmp h)&&scal (look T1) none (.tmp m)&&Nat.ble (d+1) C.n&& !C.pin.any (Nat.beq d)&&Nat.beq ops.size 7&& !Nat.beq hh d&&Nat.beq ei.size f.sz with
           | true=>match cSeq C ops [6] (({dst:=some (d,.v false [.al hh kk mm f]) }:Up).run T1) with
            | some (T3,ps3)=>match cCode C ⟨fn.results.toList,sig⟩ rest T3 with
             | some ⟨pcr,none,_⟩=>some (pc0,ps1,s,h,m,d,ps3,pcr)
             | _=>none
            | none=>none
           | false=>none
          | none=>none
         | none=>none
        | _=>none
       | none=>none
      | _,_,_=>none
     | none=>none
    | none=>none
   | _=>none
  | _=>none

section
variable {P:Program}{C:Cfg}{W:Wld}{T0:Nat→Value}{w0:World}{own0:Own}{cx:Cx}{Φ:Ask}{F:Fin}{ops:Array Oper}{Q:Exit→Act→World→Prop}

theorem Ul {S:St}{i d s h m hh kk:Nat}{mm:Bool}{f:Fz}{t:TypeId}{e:TypeId}{ei:TI}{o:Oper}{own:Own}{env:Env}{a:Act}{w:World}{xs:List (List D)}(hC:CfgOk P C)(ho:ops[i]? =some o)(hop:o.op= .slice t (.tmp s) none (some (.tmp h)) (some (.tmp m)))(hod:o.dst=some d)(hgd:o.guard=none)
  (ht:P.underlying t=some (.slice e))(hei:C.ty e=some ei)(hsz:ei.size=f.sz)(hsh:look S s= .v false [.al hh kk mm f])(hsc1:scal (look S) none (.tmp h)=true)(hsc2:scal (look S) none (.tmp m)=true)(hd:d<C.n)(hpin:C.pin.any (Nat.beq d)=false)(hne:hh≠d)(hN:Now C T0 w0 own0 cx S own env a w)
  (hs:env s=[.sl xs])(hh1:env h=[.int .i64 xs.length])(hh2:env m=[.int .i64 xs.length]){K:Act→World→Prop}
  (hK:∀ own' w' a',Now C T0 w0 own0 cx (({dst:=some (d,.v false [.al hh kk mm f]) }:Up).run S) own' (put env d [.sl xs]) a' w'→K a' w'):wpOp P ops Q i K a w:=by
 unfold wpOp
 rw [ho]
 simp only
 rw [if_pos (uY hgd)]
 left
 have hl:=hN.inv.look s
 rw [hsh] at hl
 obtain ⟨vs,h1,h2,h3⟩:=hl
 have hvl:=h2 rfl
 match vs,hvl with
 | [v],_=>
  have hv:a.eval (.tmp s)=v:=h1
  obtain ⟨hc1,hown⟩:=h3.2.2 0 _ (.sl xs) v rfl (by rw [hs];rfl) rfl
  have hown:OwnRep w cx own (hh,kk+1) mm f (.sl xs) v:=hown
  obtain ⟨dx,vx,x1,x2,x3⟩:=EJ (g:=none) hN.inv.look (fun gs b e=>by cases e) hsc1
  obtain ⟨dy,vy,y1,y2,y3⟩:=EJ (g:=none) hN.inv.look (fun gs b e=>by cases e) hsc2
  have x2':env h=[dx]:=x2
  have y2':env m=[dy]:=y2
  rw [hh1] at x2'
  rw [hh2] at y2'
  simp only [List.cons.injEq,and_true] at x2' y2'
  subst x2';subst y2'
  have hvx:=x3.int'
  have hvy:=y3.int'
  subst hvx;subst hvy
  have hes:=fun w2=>(hC e ei hei).size w2
  have hrun:∃ v',(∀ w2:World,(execOp a.eval o).run P w2= .ok (.value v') w2)∧Cell1 v'∧OwnRep w cx own (hh,kk+1) mm f (.sl xs) v':=by
   have hb:∀ w2 cap,xs.length≤cap→(Instr.sliceBounds true xs.length cap (none:Option Value) (some (.int .i64 (xs.length:Int))) (some (.int .i64 (xs.length:Int)))).run P w2= .ok (0,xs.length,xs.length) w2:=fun w2 cap hcap=>
    CK P w2 true xs.length cap 0 xs.length xs.length none (some (.int .i64 (xs.length:Int))) (some (.int .i64 (xs.length:Int))) (.inl ⟨rfl,rfl⟩) (.inr ⟨_,rfl⟩) (.inr ⟨_,rfl⟩) (Nat.zero_le _) (Nat.le_refl _) hcap
   cases hown with
   | nil=>
    refine ⟨.slice none 0 0,fun w2=>?_,⟨fun c h=>(by cases h),fun c h=>(by cases h)⟩,.nil⟩
    have hb0:(Instr.sliceBounds true 0 0 (none:Option Value) (some (.int .i64 0)) (some (.int .i64 0))).run P w2= .ok (0,0,0) w2:=hb w2 0 (Nat.le_refl 0)
    unfold execOp
    simp [hop,hv,x1,y1,Instr.sliceAt,Instr.slice,run_underlying ht,hes w2,hb0]
   | sl xs g cap cur T fr vs q1 q2 q3 q4 q5 q6 q7 q8 q9 q10=>
    refine ⟨.slice (some ⟨g,0,none⟩) xs.length xs.length,fun w2=>?_,⟨fun c h=>(by cases h),fun c h=>(by cases h)⟩,?_⟩
    ·have hb0:=hb w2 cap q3
     unfold execOp
     simp only [hop,hv,Option.map_none,Option.map_some,x1,y1,Instr.sliceAt,Instr.slice,Sem.run_bind,run_underlying ht,Result.andThen_ok,hes w2,hb0,Sem.run_pure]
     by_cases hx:xs.length=0<;>simp [hx,Addr.add]
    ·have hle:xs.length*f.sz≤cap*f.sz:=Nat.mul_le_mul_right _ q3
     exact .sl xs g xs.length cur T fr vs q1 q2 (Nat.le_refl _) (by omega) (by omega) (fun o ho=>q6 o (ho.elim (fun h=> .inl (by omega)) .inr)) q7 q8 q9 q10
   | ip _ _ hf q=>
    obtain ⟨A,cap,hv0,hcap⟩:=InRep.slice q
    have hcap':xs.length≤cap:=by
     rcases hcap with hcap | hcap
     ·exact hcap
     ·rw [hcap];exact Nat.zero_le _
    subst hv0
    refine ⟨.slice (if xs.length=0 then A else A.map (·.add (0*ei.size))) xs.length xs.length,fun w2=>?_,⟨fun c h=>(by cases h),fun c h=>(by cases h)⟩,?_⟩
    ·have hb0:=hb w2 cap hcap'
     unfold execOp
     simp only [hop,hv,Option.map_none,Option.map_some,x1,y1,Instr.sliceAt,Instr.slice,Sem.run_bind,run_underlying ht,Result.andThen_ok,hes w2,hb0,Sem.run_pure]
     by_cases hx:xs.length=0<;>simp [hx]
    ·refine .ip xs _ hf ?_
     generalize hAA:(if xs.length=0 then A else A.map (·.add (0*ei.size)))=A2
     cases q with
     | scal h=>cases h
     | nil=>exact .nil _ _ _
     | sl _ _ g sz cap cur T fr vs q1 q2 q3 q4 q5 q6 q7=>
      have:A2=some ⟨g,0,none⟩:=by rw [←hAA];by_cases hx:xs.length=0<;>simp [hx,Addr.add]
      rw [this]
      exact .sl [] xs g sz xs.length cur T fr vs q1 q2 (Nat.le_refl _) q4 q5 q6 q7
  obtain ⟨v',r1,r2,r3⟩:=hrun
  have hq:jL P cx own w a env o {dst:=some (d,.v false [.al hh kk mm f]) } (put env d [.sl xs]):=by
   refine dH hN.wok hod (by rw [hN.size];exact hd) ?_ rfl r1 ?_
   ·show ([CS.al hh kk mm f].any (Sh.names.nm d))=false
    have hnb:Nat.beq hh d=false:=by
     cases hx:Nat.beq hh d with
     | false=>rfl
     | true=>exact absurd (dY.1 hx) hne
    simp [Sh.names.nm,hnb]
   ·exact wJ (by rw [hN.size];exact hd) ⟨r2,r3⟩
  refine hq.opOk K Q (fun own' w' a' hD=>hK own' w' a' (hN.done hD ?_))
  intro d' sh' h
  simp only [Option.some.injEq,Prod.mk.injEq] at h
  rw [←h.1];exact hpin

theorem Nr (X:Ctx P C W w0 own0 Φ):∀ {l m:List Nat} {S S':St} {ps:List PS} {own:Own} {env env':Env} {a:Act} {w:World},cSeq C ops l S=some (S',ps)→Now C T0 w0 own0 cx S own env a w→qB Φ ps env env'→
  (∀ own' w' a',Now C T0 w0 own0 cx S' own' env' a' w'→wpOps P ops Q m a' w')→wpOps P ops Q (l++m) a w
 | [],m,S,S',ps,own,env,env',a,w,h,hN,hp,hQ=>by
  simp only [cSeq,Option.some.injEq,Prod.mk.injEq] at h
  obtain ⟨rfl,rfl⟩:=h
  simp only [qB] at hp
  subst hp
  exact hQ own w a hN
 | i::r,m,S,S',ps,own,env,env',a,w,h,hN,hp,hQ=>by
  simp only [cSeq] at h
  split at h
  ·cases h
  rename_i S1 p hc
  split at h
  ·cases h
  rename_i S2 ps2 hs
  simp only [Option.some.injEq,Prod.mk.injEq] at h
  obtain ⟨rfl,rfl⟩:=h
  obtain ⟨e1,h1,h2⟩:=hp
  rw [List.cons_append,wpOps_cons]
  exact Gv X hc hN h1 (fun own' w' a' hN'=>Nr X hs hN' h2 hQ)
theorem aDj (hC:CfgOk P C)(hE:EqOk P C)(hm:P.follows .mixedOrders=true){f:Nat}{fn:Func}(hf:P.funcs[f]? =some fn)(hname:(fn.name=="runtime.NumGoroutine")=false){sig:Sig}(hfine:sig.fine=true)
  {pc0 pcr:PC}{ps1 ps3:List PS}{s h m d:Nat}(hc:To C fn sig=some (pc0,ps1,s,h,m,d,ps3,pcr)){ins outs:List (List D)}
  (hp:pwp (FunOk P W) pc0 (fun x e=>x= .normal∧∃ e1 xs,qB (FunOk P W) ps1 e e1∧e1 s=[.sl xs]∧e1 h=[.int .i64 xs.length]∧e1 m=[.int .i64 xs.length]∧∃ e3,qB (FunOk P W) ps3 (put e1 d [.sl xs]) e3∧pwp (FunOk P W) pcr (aL outs) e3) (envL ins)):
  FunOk P W f sig ins outs:=by
 unfold To at hc
 split at hc
 ·cases hc
 rename_i hk
 simp only [Bool.and_eq_true,dY] at hk
 obtain ⟨⟨k1,k2⟩,k3⟩:=hk
 split at hc
 rotate_left
 ·cases hc
 rename_i r0 id ops rest hbody
 split at hc
 rotate_left
 ·cases hc
 rename_i pc0' T h0
 split at hc
 rotate_left
 ·cases hc
 rename_i T1 ps1' h1
 split at hc
 rotate_left
 ·cases hc
 rename_i o ho
 split at hc
 rotate_left
 ·cases hc
 rename_i t s' hi' mx' d' hop hod hgd
 split at hc
 rotate_left
 ·cases hc
 rename_i ti hti
 split at hc
 rotate_left
 ·cases hc
 rename_i e hde
 split at hc
 rotate_left
 ·cases hc
 rename_i ei hei
 split at hc
 rotate_left
 ·cases hc
 rename_i hh kk mm fz hal
 split at hc
 rotate_left
 ·cases hc
 rename_i hb
 simp only [Bool.and_eq_true,Bool.not_eq_true',dY] at hb
 obtain ⟨⟨⟨⟨⟨⟨b1,b2⟩,b3⟩,b4⟩,b5⟩,b6⟩,b7⟩:=hb
 split at hc
 rotate_left
 ·cases hc
 rename_i T3 ps3' h2
 split at hc
 rotate_left
 ·cases hc
 rename_i pcr' exr h3
 simp only [Option.some.injEq,Prod.mk.injEq] at hc
 obtain ⟨rfl,rfl,rfl,rfl,rfl,rfl,rfl,rfl⟩:=hc
 have hsh:look T1 s'= .v false [.al hh kk mm fz]:=by
  unfold aFf at hal
  split at hal
  ·rename_i h9
   simp only [Option.some.injEq,Prod.mk.injEq] at hal
   obtain ⟨rfl,rfl,rfl,rfl⟩:=hal
   exact h9
  ·cases hal
 refine Xz (ex:=exr) hC hf hname hfine k1 k2 k3 hbody (fun {w own cx vals a} hP hlow hN=>?_)
 have X:Ctx P C W w own (FunOk P W):=⟨hC,hE,fun _ _ _ _ h=>h,hP,hlow,hm⟩
 refine wp_seq (wp_mono (rZ X h0 hN hp) (fun en a w h=>?_))
 cases en with
 | normal=>
  obtain ⟨T',BT,env1,q1,q2,_,e1,xs,q3,q4,q5,q6,e3,q7,q8⟩:=h
  simp only [Option.some.injEq] at q1
  subst q1
  refine wp_seq (wp_region ?_)
  rw [b5]
  have hne:hh≠d':=fun e=>by rw [e,Nat.beq_refl] at b6;cases b6
  show wpOps P ops _ ([0,1,2,3,4]++[5,6]) a w
  refine Nr X h1 q2 q3 (fun own2 w2 a2 hN2=>?_)
  show wpOps P ops _ [5,6] a2 w2
  rw [wpOps_cons]
  refine Ul hC ho hop hod hgd ((hC t ti hti).slice hde) hei b7 hsh b1 b2 (Nat.le_of_ble_eq_true b3) b4 hne hN2 q4 q5 q6 (fun own3 w3 a3 hN3=>?_)
  exact QW X h2 hN3 q7 (fun own4 w4 a4 hN4=>rZ X h3 hN4 q8)
 | exit id=>
  obtain ⟨T',own',env',q1,q2,q3,_⟩:=h
  cases q3
 | ret=>
  obtain ⟨S,l,R,own',env,q1,q2,q3,_⟩:=h
  cases q3
 | _=>exact h.elim
end
end
section

def aFg:PSh→Bool
 | .v _ _=>true
 | _=>false

def Nt (f:Func)(ag:Bool)(ws:List CS)(sig:Sig):Fin:=⟨f.results.toList++[.tmp 0],⟨sig.ps,[.v false [.s],.v ag ws]⟩⟩

def YC (C:Cfg)(f:Func)(sig:Sig):Option PC:=
 match sig.ps,sig.rs with
 | .io ag ws::ps,[.v false [.s]]=>
  match ps.all aFg&&ws.all oN&&C.pin.any (Nat.beq 0)&&Nat.beq f.ntmps C.n&&Nat.ble sig.ps.length C.n with
  | false=>none
  | true=>match f.body with
   | none=>none
   | some c=>match cCode C (Nt f ag ws sig) c (rQ sig) with
    | none=>none
    | some r=>match r.out with
     | none=>some r.pc
     | some S=>match wH C (Nt f ag ws sig) S with
      | some (l,_)=>some (.seq r.pc (.ret l))
      | none=>none
 | _,_=>none

section
variable {P:Program}{C:Cfg}{W:Wld}{T0:Nat→Value}{w0:World}{own0:Own}{cx:Cx}{own:Own}{w:World}{env:Env}{a:Act}{L:Look}

theorem aDk (hC:CfgOk P C){own':Own}{w':World}{fn:Func}{sig:Sig}{ag:Bool}{ws:List CS}{ps:List PSh}(hps:sig.ps= .io ag ws::ps)(hv:ps.all aFg=true)(hal:ws.all oN=true){S R:St}{l:List Nat}{vals:List Value}
  (h:wH C (Nt fn ag ws sig) S=some (l,R))(hN:Now C (tvL vals) w own cx R own' env a w')(hw:WOk w own cx own' w')(hpin:C.pin.any (Nat.beq 0)=true):
  ∃ v,(results fn a.tmps).run P w'= .ok v w'∧∃ own2,WOk w own cx own2 w'∧aB4 w' cx own2 ag ws (l.map env) vals v:=by
 have hb:boxPs sig.ps 0=[]:=by rw [hps];simp only [boxPs];exact ES (fun p hp ws e=>by have:=List.all_eq_true.1 hv p hp;rw [e] at this;cases this)
 unfold wH Nt at h
 dsimp only at h
 rw [hb] at h
 split at h
 ·rename_i l0 T hres
  simp only [List.map_nil,HT,List.append_nil] at h
  split at h
  ·rename_i hc
   simp only [Option.some.injEq,Prod.mk.injEq] at h
   obtain ⟨rfl,rfl⟩:=h
   simp only [Bool.and_eq_true] at hc
   obtain ⟨hd,_⟩:=hc
   -- the result, and the parameter
   cases hrl:fn.results.toList with
   | nil=>rw [hrl] at hres;simp [sQ] at hres
   | cons r0 rr=>
    cases rr with
    | cons r1 rr=>
     rw [hrl] at hres
     simp only [List.cons_append,sQ] at hres
     split at hres
     ·rename_i h1 h2
      split at h2
      ·rename_i h3 h4
       cases rr<;>simp [sQ] at h4
      ·cases h2
     ·cases hres
    | nil=>
     rw [hrl] at hres
     simp only [List.cons_append,List.nil_append,sQ] at hres
     split at hres
     ·rename_i s0 S0 l1 T1 h1 h2
      simp only [Option.some.injEq,Prod.mk.injEq] at hres
      obtain ⟨rfl,rfl⟩:=hres
      split at h2
      ·rename_i s1 S1 l2 T2 h3 h4
       simp only [Option.some.injEq,Prod.mk.injEq] at h4 h2
       obtain ⟨rfl,rfl⟩:=h4
       obtain ⟨rfl,rfl⟩:=h2
       obtain ⟨v0,k1,vs0,k2,k3,k4⟩:=Ks (L:=look S) (w:=w') (cx:=cx) (own:=own') (env:=env) (a:=a) hC h1 (fun q hq=>hN.inv q (List.mem_append_left _ hq))
       have h3':s1=0∧S1=[(0,.v ag ws)]:=by
        simp only [Li,Option.some.injEq,Prod.mk.injEq] at h3
        exact ⟨h3.1.symm,h3.2.symm⟩
       obtain ⟨rfl,rfl⟩:=h3'
       have hsl:=hN.inv (0,.v ag ws) (List.mem_append_right _ (List.mem_append_left _ (List.mem_singleton.2 rfl)))
       obtain ⟨vs,n1,n2,n3⟩:=hsl
       obtain ⟨dr,vr,q1,rfl,q3⟩:=k4.one
       have hp0:IC 0 [s0,0] 0=some 1:=Gy (k:=0) (j:=1) hd rfl
       have hrun:(fn.results.toList.mapM (BG a.tmps)).run P w'= .ok [v0] w':=by
        rw [hrl,List.mapM_cons]
        simp only [Sem.run_bind,k1,Result.andThen_ok,List.mapM_nil,Sem.run_pure]
       refine ⟨v0,FS hrun,Ea [s0,0] own',⟨hw.kept,fun g j hj=>?_,hw.n,hw.s1,hw.s2,fun g o hg hcl=>hw.cl g o hg (xS hcl),fun g g' i j hi hj hl hp=>?_⟩,?_⟩
       ·obtain ⟨i,h1,_⟩:=oY hj
        exact hw.dom g i h1
       ·obtain ⟨i0,h1,h2,h3⟩:=oY hi
        obtain ⟨j0,k1,k2,k3⟩:=oY hj
        have e1:=AG h2
        have e2:=AG k2
        rw [hl] at e1
        rw [e1.2] at e2
        simp only [Option.some.injEq] at e2
        have e3:i0.leaf.2=j0.leaf.2:=by
         have a1:i.leaf.2=i0.leaf.2:=by rw [h3]
         have a2:j.leaf.2=j0.leaf.2:=by rw [k3]
         rw [←a1,←a2,hl]
        have e4:i0.path=j0.path:=by
         have a1:i.path=i0.path:=by rw [h3]
         have a2:j.path=j0.path:=by rw [k3]
         rw [←a1,←a2];exact hp
        exact hw.inj g g' i0 j0 h1 k1 (Prod.ext e2.2 e3) e4
       ·refine ⟨dr,env 0,by simp [q1],?_,vs,?_,n2,?_⟩
        ·have:=q3.2
         rw [k2]
         exact this
        ·rw [←hN.pin 0 hpin]
         exact n1
        ·exact BF hp0 hal n3
      ·cases h2
     ·cases hres
  ·cases h
 ·cases h

theorem aGj (hC:CfgOk P C)(hE:EqOk P C)(hm:P.follows .mixedOrders=true){f:Nat}{fn:Func}(hf:P.funcs[f]? =some fn)(hname:(fn.name=="runtime.NumGoroutine")=false){sig:Sig}{pc:PC}
  (hc:YC C fn sig=some pc){ins outs:List (List D)}(hp:pwp (FunOk P W) pc (aL outs) (envL ins)):FunOk P W f sig ins outs:=by
 unfold YC at hc
 split at hc
 ·rename_i ag ws ps hps hrs
  split at hc
  ·cases hc
  rename_i hk
  simp only [Bool.and_eq_true,dY] at hk
  obtain ⟨⟨⟨⟨hvp,hal⟩,hpin⟩,hn⟩,hnp⟩:=hk
  split at hc
  ·cases hc
  rename_i c hbody
  refine ⟨⟨fn,hf,hname,by rw [hbody];rfl⟩,fun w own cx vals hP hw hlow hvl hil hinv=>?_⟩
  have X:Ctx P C W w own (FunOk P W):=⟨hC,hE,fun _ _ _ _ h=>h,hP,fun g i hi=>(hlow g i hi).1,hm⟩
  let a0:Act:={tmps:=vals.toArray++Array.replicate (fn.ntmps - vals.toArray.size) undef,defers:=[] }
  have htv:tvA a0=tvL vals:=by
   funext k
   show (vals.toArray++Array.replicate (fn.ntmps - vals.toArray.size) undef).getD k undef=vals.getD k undef
   rw [Array.getD_eq_getD_getElem?,List.getD_eq_getElem?_getD]
   by_cases hk:k<vals.length
   ·rw [Array.getElem?_append_left (by simpa using hk)]
    simp
   ·rw [Array.getElem?_append_right (by simpa using hk),List.getElem?_eq_none (by omega),Array.getElem?_replicate]
    split<;>rfl
  have hsz:a0.tmps.size=C.n:=by
   show (vals.toArray++Array.replicate (fn.ntmps - vals.toArray.size) undef).size=C.n
   have:sig.ps.length≤C.n:=Nat.le_of_ble_eq_true hnp
   simp
   omega
  have hN:Now C (tvL vals) w own cx (rQ sig) own (envL ins) a0 w:=⟨hw,by rw [htv];exact hinv,hsz,rfl,fun k _=>by rw [htv]⟩
  refine calls_of_wp hf hbody ?_
  split at hc
  ·cases hc
  rename_i r hr
  have hioo:Lp sig=some (ag,ws):=by unfold Lp;rw [hps]
  have fin:∀ {S R:St} {l:List Nat} {own':Own} {env:Env} {a:Act} {w':World},wH C (Nt fn ag ws sig) S=some (l,R)→Now C (tvL vals) w own cx R own' env a w'→aL outs (.ret (l.map env)) env→
    a.defers=[]∧∃ v,(results fn a.tmps).run P w'= .ok v w'∧(fun e w'=>∃ v own',e= .returned v∧WOk w own cx own' w'∧AA w' cx own' sig outs vals v) (Ending.returned v) w':=by
   intro S R l own' env a w' h1 h2 h3
   obtain ⟨v,k1,own2,k2,k3⟩:=aDk hC hps hvp hal h1 h2 h2.wok hpin
   have h3':l.map env=outs:=h3
   rw [h3'] at k3
   refine ⟨h2.defers,v,k1,v,own2,rfl,k2,?_⟩
   unfold AA
   rw [hioo]
   exact k3
  split at hc
  ·rename_i ho
   simp only [Option.some.injEq] at hc
   subst hc
   refine wp_mono (rZ X hr hN hp) (fun e a w' h=>?_)
   cases e with
   | normal=>
    obtain ⟨T,_,_,q1,_⟩:=h
    rw [ho] at q1;cases q1
   | ret=>
    obtain ⟨S,l,R,own',env,q1,q2,q3⟩:=h
    exact fin q1 q2 q3
   | exit id=>
    obtain ⟨T,own',env,_,_,q3⟩:=h
    exact q3.elim
   | _=>exact h.elim
  ·rename_i S ho
   split at hc
   ·rename_i l R hrs'
    simp only [Option.some.injEq] at hc
    subst hc
    refine wp_mono (rZ X hr hN hp) (fun e a w' h=>?_)
    cases e with
    | normal=>
     obtain ⟨T,own',env,q1,q2,q3⟩:=h
     rw [ho] at q1
     simp only [Option.some.injEq] at q1
     subst q1
     have hle:WW S R=true:=by
      unfold wH at hrs'
      split at hrs'
      ·dsimp only at hrs'
       split at hrs'
       ·rename_i hcc
        simp only [Bool.and_eq_true] at hcc
        simp only [Option.some.injEq,Prod.mk.injEq] at hrs'
        rw [←hrs'.2]
        exact hcc.2
       ·cases hrs'
      ·cases hrs'
     obtain ⟨own2,hN2⟩:=Gx hle q2
     exact fin hrs' hN2 q3
    | ret=>
     obtain ⟨S,l,R,own',env,q1,q2,q3⟩:=h
     exact fin q1 q2 q3
    | exit id=>
     obtain ⟨T,own',env,_,_,q3⟩:=h
     exact q3.elim
    | _=>exact h.elim
   ·cases hc
 ·cases hc

end

end
section
open Go.ChangeShapes Go.WideShapes Go.ChangeAt Go.RowKit

inductive Ck where
 | nil
 | int (k:IntKind) (r:Ck)
 | bool (r:Ck)
 | str (r:Ck)
 | sl (e r:Ck)

def Ck.app:Ck→Ck→Ck
 | .nil,b=>b
 | .int k r,b=> .int k (r.app b)
 | .bool r,b=> .bool (r.app b)
 | .str r,b=> .str (r.app b)
 | .sl e r,b=> .sl e (r.app b)
def Ck.len:Ck→Nat
 | .nil=>0
 | .int _ r=>r.len+1
 | .bool r=>r.len+1
 | .str r=>r.len+1
 | .sl _ r=>r.len+1
def Ck.cs:Ck→List CS
 | .nil=>[]
 | .int _ r=> .s::r.cs
 | .bool r=> .s::r.cs
 | .str r=> .s::r.cs
 | .sl _ r=> .b::r.cs
def conf:Ck→List D→Prop
 | .nil,ds=>ds=[]
 | .int k r,ds=>∃ n ds',ds= .int k n::ds'∧(Lit.int k n).wf=true∧conf r ds'
 | .bool r,ds=>∃ b ds',ds= .bool b::ds'∧conf r ds'
 | .str r,ds=>∃ b ds',ds= .str b::ds'∧conf r ds'
 | .sl e r,ds=>∃ xs ds',ds= .sl xs::ds'∧xs.length≤maxLen∧(∀ x∈xs,conf e x)∧conf r ds'

theorem Ck.app_len:∀ a b:Ck,(a.app b).len=a.len+b.len
 | .nil,b=>by simp [Ck.app,Ck.len]
 | .int k r,b=>by simp only [Ck.app,Ck.len,Ck.app_len r b];omega
 | .bool r,b=>by simp only [Ck.app,Ck.len,Ck.app_len r b];omega
 | .str r,b=>by simp only [Ck.app,Ck.len,Ck.app_len r b];omega
 | .sl e r,b=>by simp only [Ck.app,Ck.len,Ck.app_len r b];omega
theorem Ck.app_cs:∀ a b:Ck,(a.app b).cs=a.cs++b.cs
 | .nil,b=>rfl
 | .int k r,b=>by simp only [Ck.app,Ck.cs,Ck.app_cs r b,List.cons_append]
 | .bool r,b=>by simp only [Ck.app,Ck.cs,Ck.app_cs r b,List.cons_append]
 | .str r,b=>by simp only [Ck.app,Ck.cs,Ck.app_cs r b,List.cons_append]
 | .sl e r,b=>by simp only [Ck.app,Ck.cs,Ck.app_cs r b,List.cons_append]
theorem Ck.cs_len:∀ a:Ck,a.cs.length=a.len
 | .nil=>rfl
 | .int k r=>by simp only [Ck.cs,Ck.len,List.length_cons,Ck.cs_len r]
 | .bool r=>by simp only [Ck.cs,Ck.len,List.length_cons,Ck.cs_len r]
 | .str r=>by simp only [Ck.cs,Ck.len,List.length_cons,Ck.cs_len r]
 | .sl e r=>by simp only [Ck.cs,Ck.len,List.length_cons,Ck.cs_len r]
theorem AK:∀ {a b:Ck} {d e:List D},conf a d→conf b e→conf (a.app b) (d++e)
 | .nil,b,d,e,h1,h2=>by
  have:d=[]:=h1
  subst this
  exact h2
 | .int k r,b,d,e,h1,h2=>by
  obtain ⟨n,ds,rfl,h3,h4⟩:=h1
  exact ⟨n,ds++e,rfl,h3,AK h4 h2⟩
 | .bool r,b,d,e,h1,h2=>by
  obtain ⟨n,ds,rfl,h4⟩:=h1
  exact ⟨n,ds++e,rfl,AK h4 h2⟩
 | .str r,b,d,e,h1,h2=>by
  obtain ⟨n,ds,rfl,h4⟩:=h1
  exact ⟨n,ds++e,rfl,AK h4 h2⟩
 | .sl c r,b,d,e,h1,h2=>by
  obtain ⟨xs,ds,rfl,h3,h4,h5⟩:=h1
  exact ⟨xs,ds++e,rfl,h3,h4,AK h5 h2⟩

def IG (fl:TypeId→Option Ck)(P:Program):List Field→Nat→Option Ck
 | [],_=>some .nil
 | f::r,off=>match fl f.type,IG fl P r (off+P.cellsOf f.type) with
  | some a,some b=>if f.offset=off∧a.len=P.cellsOf f.type then some (a.app b) else none
  | _,_=>none
def GP (P:Program):Nat→TypeId→Option Ck
 | 0,_=>none
 | m+1,t=>match P.underlying t with
  | some .bool=>some (.bool .nil)
  | some .string=>some (.str .nil)
  | some (.int k)=>some (.int k .nil)
  | some (.slice e)=>match GP P m e with
   | some c=>if c.len=P.cellsOf e∧1≤c.len then some (.sl c .nil) else none
   | none=>none
  | some (.struct fs)=>match IG (GP P m) P fs.toList 0 with
   | some c=>if c.len=P.cellsOf t then some c else none
   | none=>none
  | _=>none

def InC (W:World)(_:Nat)(c:CS)(d:D)(v:Value):Prop:=
 Cell1 v∧(match c with
  | .s=>Scal d v
  | .b=>Rep W (BS (topCx W) noOwn) d v
  | _=>False)

theorem FU {α:Type}{Q:Nat→α→Prop}:∀ (n:Nat),(∀ i,i<n→∃ x,Q i x)→∃ l:List α,l.length=n∧∀ i x,l[i]? =some x→Q i x
 | 0,_=>⟨[],rfl,fun i x h=>by simp at h⟩
 | n+1,h=>by
  obtain ⟨l,h1,h2⟩:=FU n (fun i hi=>h i (by omega))
  obtain ⟨x,hx⟩:=h n (by omega)
  refine ⟨l++[x],by simp [h1],fun i y hy=>?_⟩
  by_cases hi:i<l.length
  ·rw [List.getElem?_append_left hi] at hy
   exact h2 i y hy
  ·rw [List.getElem?_append_right (by omega)] at hy
   have:i - l.length=0:=by
    have:=(List.getElem?_eq_some_iff.1 hy).1
    simp at this
    omega
   rw [this] at hy
   simp only [List.getElem?_cons_zero,Option.some.injEq] at hy
   rw [←hy,show i=n by omega]
   exact hx
theorem HB {α β:Type}{f:α→Option β}:∀ {l:List α} {xs:List β},xs.length=l.length→(∀ (i:Nat) (y:α),l[i]? =some y→f y=xs[i]?)→l.mapM f=some xs
 | [],[],_,_=>rfl
 | [],_::_,h,_=>by simp at h
 | _::_,[],h,_=>by simp at h
 | y::l,x::xs,h,hf=>by
  have h1:=hf 0 y rfl
  have h2:=HB (l:=l) (xs:=xs) (f:=f) (by simpa using h) (fun i z hz=>by simpa using hf (i+1) z (by simpa using hz))
  rw [List.mapM_cons,h1,h2]
  rfl

theorem Qd {W W':World}(h:Same W W'){a:Addr}{k:Nat}(hb:a.block<W.heap.size):W'.cells? 0 a k=W.cells? 0 a k:=by
 unfold World.cells?
 have:(fun i=>W'.cell? (a.add i))=fun i=>W.cell? (a.add i):=by
  funext i
  unfold World.cell?
  rw [block_add,h.2.2 a.block hb]
 rw [this]

section
variable {H:Type}{enc:TypeId×Value→H}{P:Program}{W:World}

structure InT (enc:TypeId×Value→H) (P:Program) (W:World) (n:Nat) (t:TypeId) (c:Ck) (cs:List Value) (x:DataW H×List MemPlace):Prop where
 len:cs.length=c.len
 ds:∃ ds,conf c ds∧All3 (InC W) c.cs ds cs
 back:∀ W',Same W W'→∀ sp:Nat→Bool,(∀ q∈x.2,sp q.block=true)→DataW.trod enc P W' 0 sp true n t cs=some x

theorem YD {m:Nat}{fl:TypeId→Option Ck}(ih:∀ (t:TypeId) (c:Ck),fl t=some c→∀ (n:Nat) (cs:List Value) (x:DataW H×List MemPlace),DataW.trod enc P W 0 (fun _=>true) true n t cs=some x→(∀ q∈x.2,q.block<W.heap.size)→InT enc P W n t c cs x)
  {n:Nat}{cs:List Value}:∀ {fs:List Field} {off:Nat} {c:Ck},IG fl P fs off=some c→off+c.len≤cs.length→
   (∀ f∈fs,∃ x:DataW H×List MemPlace,DataW.trod enc P W 0 (fun _=>true) true n f.type ((cs.drop f.offset).take (P.cellsOf f.type))=some x∧∀ q∈x.2,q.block<W.heap.size)→
   ∃ ds,conf c ds∧All3 (InC W) c.cs ds ((cs.drop off).take c.len)
 | [],off,c,h,_,_=>by
  simp only [IG,Option.some.injEq] at h
  subst h
  exact ⟨[],rfl,rfl,by simp [Ck.len],fun i c d v h=>by simp [Ck.cs] at h⟩
 | f::r,off,c,h,hl,hx=>by
  simp only [IG] at h
  split at h
  ·rename_i a b h1 h2
   split at h
   ·rename_i hk
    simp only [Option.some.injEq] at h
    subst h
    rw [Ck.app_len] at hl
    obtain ⟨x,hx1,hx2⟩:=hx f (List.mem_cons_self ..)
    obtain ⟨g1,⟨ds1,g2,g3⟩,_⟩:=ih _ _ h1 n _ x hx1 hx2
    obtain ⟨ds2,g4,g5⟩:=YD (m:=m) ih h2 (by omega) (fun f hf=>hx f (List.mem_cons_of_mem _ hf))
    refine ⟨ds1++ds2,AK g2 g4,?_⟩
    rw [Ck.app_cs,Ck.app_len,List.take_add,List.drop_drop]
    rw [hk.1,←hk.2] at g3
    rw [←hk.2] at g5
    exact g3.append g5
   ·cases h
  ·cases h

theorem YE:∀ (m:Nat) (t:TypeId) (c:Ck),GP P m t=some c→∀ (n:Nat) (cs:List Value) (x:DataW H×List MemPlace),DataW.trod enc P W 0 (fun _=>true) true n t cs=some x→(∀ q∈x.2,q.block<W.heap.size)→InT enc P W n t c cs x
 | 0,_,_,h=>by cases h
 | m+1,t,c,h=>by
  intro n cs x hx hlt
  have ih:=fun t c h=>@YE m t c h
  simp only [GP] at h
  split at h
  ·rename_i ht
   simp only [Option.some.injEq] at h
   subst h
   obtain ⟨b,rfl,rfl⟩:=DataW.trod_bool ht hx
   refine ⟨rfl,⟨[.bool b],⟨b,[],rfl,rfl⟩,rfl,rfl,fun i c d v hc hd hv=>?_⟩,fun W' hW sp hsp=>?_⟩
   ·cases i with
    | succ i=>simp [Ck.cs] at hc
    | zero=>
     simp only [Ck.cs,List.getElem?_cons_zero,Option.some.injEq] at hc hd hv
     subst hc;subst hd;subst hv
     exact ⟨(Scal.bool b).cell1,.bool b⟩
   ·cases n with
    | zero=>simp [DataW.trod] at hx
    | succ n=>unfold DataW.trod;rw [ht]
  ·rename_i ht
   simp only [Option.some.injEq] at h
   subst h
   obtain ⟨b,rfl,rfl,hw⟩:=DataW.trod_string ht hx
   refine ⟨rfl,⟨[.str b],⟨b,[],rfl,rfl⟩,rfl,rfl,fun i c d v hc hd hv=>?_⟩,fun W' hW sp hsp=>?_⟩
   ·cases i with
    | succ i=>simp [Ck.cs] at hc
    | zero=>
     simp only [Ck.cs,List.getElem?_cons_zero,Option.some.injEq] at hc hd hv
     subst hc;subst hd;subst hv
     exact ⟨(Scal.str b).cell1,.str b⟩
   ·cases n with
    | zero=>simp [DataW.trod] at hx
    | succ n=>unfold DataW.trod;rw [ht];exact if_pos hw
  ·rename_i k ht
   simp only [Option.some.injEq] at h
   subst h
   obtain ⟨z,rfl,rfl,hw⟩:=DataW.trod_int ht hx
   refine ⟨rfl,⟨[.int k z],⟨z,[],rfl,hw,rfl⟩,rfl,rfl,fun i c d v hc hd hv=>?_⟩,fun W' hW sp hsp=>?_⟩
   ·cases i with
    | succ i=>simp [Ck.cs] at hc
    | zero=>
     simp only [Ck.cs,List.getElem?_cons_zero,Option.some.injEq] at hc hd hv
     subst hc;subst hd;subst hv
     exact ⟨(Scal.int k z).cell1,.int k z⟩
   ·cases n with
    | zero=>simp [DataW.trod] at hx
    | succ n=>exact trod_int_mk n ht hw
  ·rename_i e ht
   split at h
   ·rename_i ce hce
    split at h
    ·rename_i hk
     simp only [Option.some.injEq] at h
     subst h
     obtain ⟨hk1,hk2⟩:=hk
     rcases DataW.trod_slice ht hx with ⟨rfl,rfl⟩ | ⟨a,len,cap,elems,rest,n',rfl,rfl,rfl,hb,hl,hm,hlen,hel,hsp,hns⟩
     ·refine ⟨rfl,⟨[.sl []],⟨[],[],rfl,Nat.zero_le _,(fun x hx=>by cases hx),rfl⟩,rfl,rfl,fun i c d v hc hd hv=>?_⟩,fun W' hW sp hsp=>?_⟩
      ·cases i with
       | succ i=>simp [Ck.cs] at hc
       | zero=>
        simp only [Ck.cs,List.getElem?_cons_zero,Option.some.injEq] at hc hd hv
        subst hc;subst hd;subst hv
        exact ⟨⟨fun c h=>(by cases h),fun c h=>(by cases h)⟩,.nil none 0⟩
      ·cases n with
       | zero=>simp [DataW.trod] at hx
       | succ n=>
        rw [DataW.trod_step]
        unfold DataW.trodStep
        simp only [ht]
     ·obtain ⟨hrl,hr⟩:=hsp rfl
      simp only at hlt
      -- every element
      have hblk:0<elems.length+rest.length→a.block<W.heap.size:=fun h0=>by
       have:=hlt (.cell a.block a.off) (List.mem_append_left _ (MemPlace.mem_row.2 ⟨0,by rw [←hk1];exact Nat.mul_pos h0 (by omega),by simp⟩))
       exact this
      have hall:∀ i,i<elems.length+rest.length→∃ (ci:List Value) (x:DataW H×List MemPlace),W.cells? 0 (a.add (i*P.cellsOf e)) (P.cellsOf e)=some ci∧(elems++rest)[i]? =some x∧InT enc P W n' e ce ci x:=by
       intro i hi
       have hx':(elems++rest)[i]? =some ((elems++rest)[i]'(by simpa using hi)):=List.getElem?_eq_getElem (by simpa using hi)
       have hbd:(W.cells? 0 (a.add (i*P.cellsOf e)) (P.cellsOf e)).bind (DataW.trod enc P W 0 (fun _=>true) true n' e)=some ((elems++rest)[i]'(by simpa using hi)):=by
        rw [←hx']
        by_cases hi':i<len
        ·rw [List.getElem?_append_left (by omega)]
         exact hel i hi'
        ·rw [List.getElem?_append_right (by omega),hlen]
         have:=hr (i - len) (by omega)
         rwa [show len+(i - len)=i by omega] at this
       obtain ⟨ci,hci,hti⟩:=Option.bind_eq_some_iff.1 hbd
       refine ⟨ci,_,hci,hx',ih e ce hce n' ci _ hti (fun q hq=>hlt q (List.mem_append_right _ (List.mem_flatMap.2 ⟨_,List.getElem_mem (by simpa using hi),hq⟩)))⟩
      obtain ⟨xs,hxl,hxs⟩:=FU (Q:=fun i (y:List D)=>∃ ci,W.cells? 0 (a.add (i*P.cellsOf e)) (P.cellsOf e)=some ci∧conf ce y∧All3 (InC W) ce.cs y ci) len (fun i hi=>by
       obtain ⟨ci,x,h1,_,h3⟩:=hall i (by omega)
       obtain ⟨y,h4,h5⟩:=h3.ds
       exact ⟨y,ci,h1,h4,h5⟩)
      have hylen:∀ (i:Nat) (y:List D),xs[i]? =some y→y.length=P.cellsOf e:=fun i y hy=>by
       obtain ⟨ci,_,_,h3⟩:=hxs i y hy
       rw [←h3.1,Ck.cs_len,hk1]
      have hrep:Rep W (BS (topCx W) noOwn) (.sl xs) (.slice (some a) len cap):=by
       by_cases h0:len=0
       ·subst h0
        have:xs=[]:=List.length_eq_zero_iff.1 hxl
        subst this
        exact .nil (some a) cap
       ·obtain ⟨ci0,_,hc0,_⟩:=hall 0 (by omega)
        obtain ⟨b,o,spot⟩:=a
        have hspot:spot=none:=by
         have h1:=(World.cells?_some hc0).2
         have h2:0<ci0.length:=by rw [h1.1];omega
         have h3:=h1.2 0 (by omega)
         rw [List.getElem?_eq_getElem h2] at h3
         have:=World.cell?_spot h3
         simpa [Addr.add] using this
        subst hspot
        have hbs:=hblk (by omega)
        have hcl:∀ (i:Nat) (y:List D) (j:Nat) (d:D),xs[i]? =some y→y[j]? =some d→∃ v,W.cell? ⟨b,o+i*P.cellsOf e+j,none⟩=some v∧Rep W (BS (topCx W) noOwn) d v:=by
         intro i y j d hy hd
         obtain ⟨ci,h1,_,h3⟩:=hxs i y hy
         obtain ⟨_,h4,h5⟩:=World.cells?_some h1
         have hj:j<y.length:=(List.getElem?_eq_some_iff.1 hd).1
         have hjk:j<P.cellsOf e:=by rw [←hylen i y hy];exact hj
         have hv:ci[j]? =some (ci[j]'(by omega)):=List.getElem?_eq_getElem (by omega)
         have hcj:ce.cs[j]? =some (ce.cs[j]'(by rw [h3.1];exact hj)):=List.getElem?_eq_getElem _
         have h6:=h5 j hjk
         rw [add_plain,add_plain,hv] at h6
         refine ⟨_,h6,?_⟩
         obtain ⟨_,h7⟩:=h3.2.2 j _ d _ hcj hd hv
         split at h7
         ·exact .scal h7
         ·exact h7
         ·exact h7.elim
        rw [←hxl]
        exact .sl xs b o (P.cellsOf e) cap (fun i j=>(W.cell? ⟨b,o+i*P.cellsOf e+j,none⟩).getD undef) (by omega) (fun y hy=>by
          obtain ⟨i,hi⟩:=List.getElem?_of_mem hy
          exact hylen i y hi)
         (fun i y j d hy hd=>by
          obtain ⟨v,h1,_⟩:=hcl i y j d hy hd
          rw [h1];rfl)
         (fun i y j d hy hd=>⟨aW rfl,.inl hbs⟩)
         (fun i y j d hy hd=>by
          obtain ⟨v,h1,h2⟩:=hcl i y j d hy hd
          rw [h1];exact h2)
      refine ⟨rfl,⟨[.sl xs],⟨xs,[],rfl,by omega,(fun y hy=>?_),rfl⟩,rfl,rfl,fun i c d v hc hd hv=>?_⟩,fun W' hW sp hsp'=>?_⟩
      ·obtain ⟨i,hi⟩:=List.getElem?_of_mem hy
       obtain ⟨_,_,h2,_⟩:=hxs i y hi
       exact h2
      ·cases i with
       | succ i=>simp [Ck.cs] at hc
       | zero=>
        simp only [Ck.cs,List.getElem?_cons_zero,Option.some.injEq] at hc hd hv
        subst hc;subst hd;subst hv
        exact ⟨⟨fun c h=>(by cases h),fun c h=>(by cases h)⟩,hrep⟩
      ·simp only at hsp'
       have one:∀ i,i<elems.length+rest.length→(W'.cells? 0 (a.add (i*P.cellsOf e)) (P.cellsOf e)).bind (DataW.trod enc P W' 0 sp true n' e)=(elems++rest)[i]? :=by
        intro i hi
        obtain ⟨ci,x,h1,h2,h3⟩:=hall i hi
        rw [Qd hW (by rw [block_add];exact hblk (by omega)),h1,h2]
        exact h3.back W' hW sp (fun q hq=>hsp' q (List.mem_append_right _ (List.mem_flatMap.2 ⟨x,List.mem_of_getElem? h2,hq⟩)))
       rw [DataW.trod_step]
       unfold DataW.trodStep
       simp only [ht]
       rw [if_pos ⟨Nat.zero_le _,hl,hm⟩,HB (xs:=elems) (by simp [hlen]) (fun i y hy=>by
        have hi:i<len:=by have:=(List.getElem?_eq_some_iff.1 hy).1;simpa using this
        have hy':y=i:=by
         rw [List.getElem?_range hi] at hy
         exact (Option.some.inj hy).symm
        subst hy'
        rw [one y (by omega),List.getElem?_append_left (by omega)])]
       simp only [Option.bind_some]
       by_cases h0:elems.length+rest.length=0
       ·have hr0:rest=[]:=List.length_eq_zero_iff.1 (by omega)
        have hc0:cap - len=0:=by omega
        subst hr0
        rw [hc0]
        cases sp a.block<;>rfl
       ·have hspb:sp a.block=true:=hsp' (.cell a.block a.off) (List.mem_append_left _ (MemPlace.mem_row.2 ⟨0,by rw [←hk1];exact Nat.mul_pos (by omega) (by omega),by simp⟩))
        rw [hspb]
        simp only [if_true]
        rw [HB (xs:=rest) (by simp [hrl]) (fun i y hy=>by
         have hi:i<cap - len:=by have:=(List.getElem?_eq_some_iff.1 hy).1;simpa using this
         have hy':y=i:=by
          rw [List.getElem?_range hi] at hy
          exact (Option.some.inj hy).symm
         subst hy'
         rw [one (len+y) (by omega),List.getElem?_append_right (by omega),hlen,Nat.add_sub_cancel_left])]
        rfl
    ·cases h
   ·cases h
  ·rename_i fs ht
   split at h
   ·rename_i c' hf
    split at h
    ·rename_i hk
     simp only [Option.some.injEq] at h
     subst h
     obtain ⟨xs,n',rfl,rfl,hl,hxl,hfx⟩:=DataW.trod_struct ht hx
     have hfs:∀ (i:Nat) (f:Field),fs.toList[i]? =some f→∃ x:DataW H×List MemPlace,xs[i]? =some x∧DataW.trod enc P W 0 (fun _=>true) true n' f.type ((cs.drop f.offset).take (P.cellsOf f.type))=some x∧∀ q∈x.2,q.block<W.heap.size:=by
      intro i f hf'
      have hi:i<xs.length:=by
       have:=(List.getElem?_eq_some_iff.1 hf').1
       rw [hxl];simpa using this
      have hxi:xs[i]? =some xs[i]:=List.getElem?_eq_getElem hi
      refine ⟨xs[i],hxi,by rw [←hxi];exact hfx i f (by simpa using hf'),fun q hq=>hlt q (List.mem_flatMap.2 ⟨_,List.getElem_mem hi,hq⟩)⟩
     refine ⟨by rw [hl,hk],?_,fun W' hW sp hsp=>?_⟩
     ·obtain ⟨ds,h1,h2⟩:=YD (m:=m) (fun t c h=>ih t c h) hf (by rw [hk,hl];omega) (fun f hf'=>by
       obtain ⟨i,hi⟩:=List.getElem?_of_mem hf'
       obtain ⟨x,_,h2,h3⟩:=hfs i f hi
       exact ⟨x,h2,h3⟩)
      rw [List.drop_zero,List.take_of_length_le (by rw [hk,hl];exact Nat.le_refl _)] at h2
      exact ⟨ds,h1,h2⟩
     ·refine trod_struct_mk ht hl (HB (by rw [hxl];simp) (fun i f hf'=>?_))
      obtain ⟨x,h1,h2,h3⟩:=hfs i f hf'
      have hfl:∃ cf,GP P m f.type=some cf:=by
       have:∀ {fs:List Field} {off:Nat} {c:Ck},IG (GP P m) P fs off=some c→∀ f∈fs,∃ cf,GP P m f.type=some cf:=by
        intro fs
        induction fs with
        | nil=>intro off c h f hf;cases hf
        | cons g r ihr=>
         intro off c h f hf
         simp only [IG] at h
         split at h
         ·rename_i a b h1 h2
          rcases List.mem_cons.1 hf with rfl | hf
          ·exact ⟨a,h1⟩
          ·exact ihr h2 f hf
         ·cases h
       exact this hf f (List.mem_of_getElem? hf')
      obtain ⟨cf,hcf⟩:=hfl
      rw [h1]
      exact (ih _ _ hcf n' _ x h2 h3).back W' hW sp (fun q hq=>hsp q (List.mem_flatMap.2 ⟨x,List.mem_of_getElem? h1,hq⟩))
    ·cases h
   ·cases h
  ·cases h

end

end
section
open Go.ChangeShapes Go.WideShapes Go.ChangeAt Go.RowKit

def YF (P:Program)(t:TypeId):Bool:=match P.underlying t with | some (.struct _)=>true | _=>false

def InV (W:World)(q:Bool×Ck)(ds:List D)(v:Value):Prop:=conf q.2 ds∧∃ cvs,v=wrapV q.1 cvs∧(q.1=false→cvs.length=1)∧All3 (InC W) q.2.cs ds cvs

section
variable {H:Type}{enc:TypeId×Value→H}{P:Program}{W:World}

theorem aDl {m:Nat}{base:Nat}{t:TypeId}{q:Bool×Ck}(hq:(YF P t,GP P m t)=(q.1,some q.2)){v:Value}{d:DataW H}{p:List MemPlace}(h:DataW.Trod enc P W 0 (fun _=>true) true t v d p)(hlt:∀ x∈p,x.block<W.heap.size)(hok:Value.okWide P W .any base t v):
  (∃ ds,InV W q ds v)∧∀ W',Same W W'→∀ sp:Nat→Bool,(∀ x∈p,sp x.block=true)→DataW.Trod enc P W' 0 sp true t v d p:=by
 obtain ⟨n,hn⟩:=h
 simp only [Prod.mk.injEq] at hq
 have hi:=YE m t q.2 hq.2 n _ _ hn hlt
 refine ⟨?_,fun W' hW sp hsp=>⟨n,hi.back W' hW sp hsp⟩⟩
 obtain ⟨ds,h1,h2⟩:=hi.ds
 refine ⟨ds,h1,v.cells.toList,?_,?_,h2⟩
 ·rw [←hq.1]
  have hfl:=hq.2
  unfold YF
  cases m with
  | zero=>cases hfl
  | succ m=>
   simp only [GP] at hfl
   split at hfl
   ·rename_i ht
    obtain ⟨b,rfl⟩:=okWide_bool ht hok
    rw [ht];rfl
   ·rename_i ht
    obtain ⟨b,rfl⟩:=okWide_string ht hok
    rw [ht];rfl
   ·rename_i ht
    obtain ⟨b,rfl⟩:=okWide_int ht hok
    rw [ht];rfl
   ·rename_i ht
    obtain ⟨a,l,c,rfl⟩:=okWide_slice ht hok
    rw [ht];rfl
   ·rename_i ht
    obtain ⟨cs,rfl,_⟩:=okWide_struct ht hok
    rw [ht]
    simp [wrapV,Value.cells]
   ·cases hfl
 ·intro hf
  rw [hi.len]
  rw [←hq.1] at hf
  have hfl:=hq.2
  unfold YF at hf
  cases m with
  | zero=>cases hfl
  | succ m=>
   simp only [GP] at hfl
   split at hfl
   ·simp only [Option.some.injEq] at hfl
    rw [←hfl];rfl
   ·simp only [Option.some.injEq] at hfl
    rw [←hfl];rfl
   ·simp only [Option.some.injEq] at hfl
    rw [←hfl];rfl
   ·split at hfl
    ·split at hfl
     ·simp only [Option.some.injEq] at hfl
      rw [←hfl];rfl
     ·cases hfl
    ·cases hfl
   ·rename_i ht
    rw [ht] at hf
    cases hf
   ·cases hfl

theorem Nu {m:Nat}{base:Nat}:∀ {ts:List TypeId} {L:List (Bool×Ck)} {vs:List Value} {ds:List (DataW H)} {p:List MemPlace},ts.map (fun t=>(YF P t,GP P m t))=L.map (fun p=>(p.1,some p.2))→DataW.TrodAll enc P W 0 (fun _=>true) true ts vs ds p→(∀ x∈p,x.block<W.heap.size)→
  (∀ (j:Nat) t v,ts[j]? =some t→vs[j]? =some v→Value.okWide P W .any base t v)→vs.length=L.length∧ds.length=L.length∧
   (∃ ins:List (List D),ins.length=L.length∧∀ (k:Nat) (q:Bool×Ck) (d:List D) (v:Value),L[k]? =some q→ins[k]? =some d→vs[k]? =some v→InV W q d v)∧
   ∀ W',Same W W'→∀ sp:Nat→Bool,(∀ x∈p,sp x.block=true)→DataW.TrodAll enc P W' 0 sp true ts vs ds p
 | [],[],vs,ds,p,_,h,_,_=>by
  obtain ⟨rfl,rfl,rfl⟩:=trodAll_nil h
  exact ⟨rfl,rfl,⟨[],rfl,fun k q d v h=>by simp at h⟩,fun _ _ _ _=>rfl⟩
 | [],_::_,_,_,_,e,_,_,_=>by simp at e
 | _::_,[],_,_,_,e,_,_,_=>by simp at e
 | t::ts,q0::L,vs,ds,p,e,h,hlt,hok=>by
  obtain ⟨v,vs',d,ds',p1,p2,rfl,rfl,rfl,h1,h2⟩:=trodAll_cons h
  simp only [List.map_cons,List.cons.injEq] at e
  obtain ⟨⟨i1,hi1⟩,hb1⟩:=aDl e.1 h1 (fun x hx=>hlt x (List.mem_append_left _ hx)) (hok 0 t v rfl rfl)
  obtain ⟨l1,l2,⟨ins,l3,l4⟩,hb2⟩:=Nu e.2 h2 (fun x hx=>hlt x (List.mem_append_right _ hx)) (fun j t v ht hv=>hok (j+1) t v (by simpa using ht) (by simpa using hv))
  refine ⟨by simp [l1],by simp [l2],⟨i1::ins,by simp [l3],fun k q d v hk hd hv=>?_⟩,fun W' hW sp hsp=>⟨p1,p2,hb1 W' hW sp (fun x hx=>hsp x (List.mem_append_left _ hx)),hb2 W' hW sp (fun x hx=>hsp x (List.mem_append_right _ hx)),rfl⟩⟩
  cases k with
  | zero=>
   simp only [List.getElem?_cons_zero,Option.some.injEq] at hk hd hv
   subst hk;subst hd;subst hv
   exact hi1
  | succ k=>exact l4 k q d v (by simpa using hk) (by simpa using hd) (by simpa using hv)
end

def Um (L:List (Bool×Ck)):Sig:=⟨L.map fun p=> .v p.1 p.2.cs,[.v false [.s]]⟩

theorem aHo {T:Wld}{H:Type}{enc:TypeId×Value→H}{P:Program}{f:Nat}{fn:Func}{s:ChangeSpec}{apart fresh handsOn again:Bool}{W:World}{args:Array Value}{base:Nat}{ds gs:List (DataW H)}{before:List MemPlace}{u:TypeId}(m:Nat)(L:List (Bool×Ck))
  (hts:fn.params.toList.map (fun t=>(YF P t,GP P m t))=L.map (fun p=>(p.1,some p.2)))(hrt:fn.resultTypes=#[u])(hu:P.underlying u=some .bool)(hv:s.vars=[])
  (hfn:∀ ds:List (DataW H),ds.length=L.length→(s.fn H ds).results=[.lit (.bool true)]∧(s.fn H ds).args=ds∧(s.fn H ds).vars=[])
  (hf:∀ ins:List (List D),ins.length=L.length→(∀ (k:Nat) (q:Bool×Ck) (d:List D),L[k]? =some q→ins[k]? =some d→conf q.2 d)→FunOk P T f (Um L) ins [[.bool true]])
  (hval:∀ (j:Nat) t v,fn.params[j]? =some t→args[j]? =some v→Value.okWide P W .any base t v)
  (hW:DataW.Whole enc P fn.params.toList s.vars apart W args.toList ds gs before)(hT:T.P W:=by exact trivial):
  Calls P f args W fun e W'=>∃ v,e= .returned v∧s.post enc P fn apart fresh handsOn again W args v W':=by
 have hW':=hW
 have hlt:=hW.lt
 obtain ⟨p,q,hA,hV,rfl,hfz,hnd⟩:=hW
 rw [hv] at hV
 obtain ⟨rfl,rfl⟩:=trodVars_none hV
 obtain ⟨l1,l2,⟨ins,l3,l4⟩,hback⟩:=Nu (base:=base) hts hA (fun x hx=>hlt x (by simpa using hx)) (fun j t v ht hv=>hval j t v (by simpa using ht) (by simpa using hv))
 have hconf:∀ (k:Nat) (q:Bool×Ck) (d:List D),L[k]? =some q→ins[k]? =some d→conf q.2 d:=fun k q d hq hd=>by
  have hk:k<args.toList.length:=by rw [l1];exact (List.getElem?_eq_some_iff.1 hq).1
  exact (l4 k q d _ hq hd (List.getElem?_eq_getElem hk)).1
 obtain ⟨_,hrun⟩:=hf ins l3 hconf
 have hargs:args=args.toList.toArray:=by simp
 rw [hargs]
 refine (hrun W noOwn (topCx W) args.toList hT (Tm W) (fun g i h=>by cases h) (by rw [l1];simp [Um]) (by rw [l3];simp [Um]) ?_).mono ?_
 ·intro x hx
  obtain ⟨k,ps,hk,rfl⟩:=xP hx
  rw [Nat.zero_add]
  have hk':∃ q,L[k]? =some q∧ps= .v q.1 q.2.cs:=by
   simp only [Um,List.getElem?_map,Option.map_eq_some_iff] at hk
   obtain ⟨q,h1,h2⟩:=hk
   exact ⟨q,h1,h2.symm⟩
  obtain ⟨q,hq,rfl⟩:=hk'
  have hkl:k<L.length:=(List.getElem?_eq_some_iff.1 hq).1
  obtain ⟨_,cvs,h1,h2,h3⟩:=l4 k q _ _ hq (List.getElem?_eq_getElem (by omega)) (List.getElem?_eq_getElem (by omega))
  have henv:envL ins k=ins[k]'(by omega):=by simp [envL,List.getD,show k<ins.length by omega]
  have htv:tvL args.toList k=args.toList[k]'(by omega):=by
   unfold tvL
   rw [List.getD_eq_getElem?_getD,List.getElem?_eq_getElem (by omega)]
   rfl
  refine ⟨cvs,htv.trans h1,h2,by rw [henv];exact h3.1,by rw [henv];exact h3.2.1,fun i c d v hc hd hv=>?_⟩
  rw [henv] at hd
  obtain ⟨k1,k2⟩:=h3.2.2 i c d v hc hd hv
  refine ⟨k1,?_⟩
  split at k2
  ·exact k2
  ·exact k2
  ·exact k2.elim
 ·rintro en W' ⟨v,own',rfl,hwok,hres⟩
  have hS:=Tn hwok
  unfold AA at hres
  have hio:Lp (Um L)=none:=by
   unfold Lp Um
   cases L with
   | nil=>rfl
   | cons a r=>rfl
  rw [hio] at hres
  obtain ⟨hlen,rv,hrl,rfl,hr,_⟩:=hres
  match rv,hrl with
  | [r],_=>
   obtain ⟨vs,h1,h2,h3⟩:=hr 0 (.v false [.s]) rfl
   have hvl:=h2 rfl
   match vs,hvl with
   | [x],_=>
    have hx:r=x:=h1
    subst hx
    obtain ⟨_,hsc⟩:=h3.2.2 0 .s (.bool true) r rfl rfl rfl
    have hrb:r= .bool true:=by cases hsc;rfl
    subst hrb
    obtain ⟨e1,e2,e3⟩:=hfn ds l2
    refine ⟨_,rfl,?_⟩
    rw [←hargs]
    refine Kx (pa:=p) (pv:=[]) (by rw [List.append_nil] at hW';exact hW') hS (fun b sp hd=>?_) (fun sp hsp=>?_) (fun sp hsp=>?_) (by simp) ?_
    ·rw [List.append_nil,e1,hrt]
     exact trodAll_mk1 (shut_bool hu true)
    ·rw [List.append_nil,e2]
     exact hback W' hS sp (fun x hx=>hsp x (by simpa using hx))
    ·rw [List.append_nil,e3,hv]
     exact rfl
    ·exact ok_one hrt rfl (okWide_bool_mk hu true)

end
end V
end Go.Proofs.YtgekfemnjphmbaaGreat
