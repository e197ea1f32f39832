/- A run of the pure machine is a call of the model's. No condition. -/
import Derived.Test.YtglbgfcegifeeaaGreatZ04
import Derived.LoopN
import Derived.WalkKit
import Derived.ProofKit
import Derived.OpenShut
import Derived.Carry
set_option linter.unusedVariables false
set_option linter.unusedSimpArgs false
set_option linter.unusedSectionVars false
namespace Go.Proofs.YtglbgfcegifeeaaGreat.Vm
open Go Go.RowKit
section
variable {P:Program} {R:List Nat} {w0:dw} {S0:Nat→Nat→Prop} {N:Nat} {ρ:Nat→Nat×Nat} {S:Nat→Nat→Prop} {st st':St} {a:Act} {w:World} {call:FuncId→aw→aH}
theorem CV (x:DV) :(Aw x).dX=false:=by
 cases x with
 | sl k sz es=>cases k<;>rfl
 | _=>rfl
theorem ED (x:DV) :(ct x).dX=false:=by
 cases x with
 | sl k sz es=>cases k<;>rfl
 | _=>rfl
theorem cg.Bp {B:Nat→Prop} : ∀(l:aw) (us:List Value),(∀x∈l,x.dX=false)→cg w S l us→cw B w S l us []
 | [],us,_,h=>by simp only [cg] at h; simp only [cw]; exact ⟨h,trivial⟩
 | x::l,us,ho,h=>by
  simp only [cg] at h
  obtain ⟨u,oj,rfl,h1,h2⟩:=h
  have hx:=ho x (by simp)
  have q6: ∃v' yX,u::oj=v'::yX∧aW w S x v'∧cw B w S l yX []:=⟨u,oj,rfl,h1,cg.Bp l oj (fun y hy=>ho y (by simp [hy])) h2⟩
  cases x<;>try (simpa only [cw] using q6)
  rename_i k sz es
  cases k<;>first | (simpa only [cw] using q6) | (simp [DV.dX] at hx)
theorem vJ {B:Nat→Prop} {x:DV} {v:Value} (h:aW w S x v) :jv B w S (ct x) v:=by
 have h':=l9 h
 have fY:(ct x).dX=false→(∀vs,ct x≠ .tuple vs)→(∀vs,ct x≠ .agg vs)→jv B w S (ct x) v:=by
  intro ho ht ha
  generalize ct x=y at *
  cases y with
  | sl k sz es=>cases k<;>first | exact h' | (simp [DV.dX] at ho)
  | tuple vs=>exact absurd rfl (ht vs)
  | agg vs=>exact absurd rfl (ha vs)
  | _=>exact h'
 cases x with
 | tuple vs=>
  simp only [ct,aW] at h'
  obtain ⟨us,rfl,hl⟩:=h'
  simp only [ct,jv]
  exact ⟨us,[],rfl,cg.Bp _ _ (fun y hy=>by obtain ⟨z,_,rfl⟩:=List.mem_map.1 hy; exact CV z) hl⟩
 | agg vs=>
  simp only [ct,aW] at h'
  obtain ⟨us,rfl,hl⟩:=h'
  simp only [ct,jv]
  exact ⟨us,[],rfl,cg.Bp _ _ (fun y hy=>by obtain ⟨z,_,rfl⟩:=List.mem_map.1 hy; exact CV z) hl⟩
 | sl k sz es=>cases k<;>exact fY rfl (fun vs h=>by cases h) (fun vs h=>by cases h)
 | _=>exact fY rfl (fun vs h=>by cases h) (fun vs h=>by cases h)
def gG (st:St) :AV→List Nat
 | .ah s sz off len=>
  match st.aT s with
  | some (.aC el bd es)=>if bd=sz∧off=0∧len=es.length then [s] else []
  | some (.mix el bd es)=>if bd=sz∧off=0∧len=es.length then (match kr st es with | some _=>s::es.flatMap bo | none=>[]) else []
  | none=>[]
 | _=>[]
def dC (st:St) :List AV→List Nat
 | []=>[]
 | v::l=>gG st v++dC st l
theorem rh (st:St) (v:AV) (s:Nat) (h:s∈gG st v) :s∈v.sites∨s∈v.sites.flatMap st.inner:=by
 cases v with
 | ah s' sz off len=>
  simp only [gG] at h
  cases aZ:st.aT s' with
  | none=>simp [aZ] at h
  | some o=>
   cases o with
   | aC el bd es=>
    simp only [aZ] at h
    split at h
    ·simp only [List.mem_singleton] at h
     subst h
     exact .inl (by simp [AV.sites])
    ·cases h
   | mix el bd es=>
    simp only [aZ] at h
    split at h
    ·split at h
     ·rcases List.mem_cons.1 h with rfl | h
      ·exact .inl (by simp [AV.sites])
      ·right
       simp only [AV.sites,List.flatMap_cons,List.flatMap_nil,List.append_nil,St.inner,aZ]
       exact h
     ·cases h
    ·cases h
 | _=>simp [gG] at h
theorem kQ (st:St) : ∀(l:List AV) (s:Nat),s∈dC st l→s∈bo l∨s∈(bo l).flatMap st.inner
 | [],s,h=>by simp [dC] at h
 | v::l,s,h=>by
  simp only [dC,List.mem_append] at h
  simp only [bo,List.mem_append,List.flatMap_append]
  rcases h with h | h
  ·rcases rh st v s h with h | h
   ·exact .inl (.inl h)
   ·exact .inr (.inl h)
  ·rcases kQ st l s h with h | h
   ·exact .inl (.inr h)
   ·exact .inr (.inr h)
theorem pg {st:St} {v:AV} (h:gG st v=[]) :dL st v=(snap st v).map ct:=by
 cases v with
 | ah s sz off len=>
  simp only [gG,dL] at h ⊢
  cases aZ:st.aT s with
  | none=>rfl
  | some o=>
   cases o with
   | aC el bd es=>
    simp only [aZ] at h ⊢
    split at h
    ·cases h
    ·rename_i hc
     rw [if_neg hc]
   | mix el bd es=>
    simp only [aZ] at h ⊢
    split at h
    ·rename_i hc
     rw [if_pos hc]
     split at h
     ·cases h
     ·rename_i hw
      rw [hw]
    ·rename_i hc
     rw [if_neg hc]
 | _=>rfl
def uM (st:St) (ρ:Nat→Nat×Nat) (S:Nat→Nat→Prop) (owns:List Nat) :Nat→Nat→Prop:=fun b p=>S b p∨ ∃s o,st.aT s=some o∧b=(ρ s).1∧s ∉ owns
theorem CW (hI:Inv w0 S0 N ρ S st a w) {owns:List Nat} {s sz el:Nat} {es:aj} {u:Value} (hs:s∈owns) (aZ:st.aT s=some (.aC el sz es)) (hu:aE w S ρ (.ah s sz 0 es.length) u) :
  iX w0.gz w (uM st ρ S owns) el sz es u (ρ s).1:=by
 obtain ⟨bj,cR⟩:=hI.aT s _ aZ
 simp only [aE] at hu
 obtain ⟨ad,cap,rfl,hb,iz,_,_⟩:=hu
 have Jc:=hb (.inr trivial)
 have Nc:=iz trivial
 subst Jc
 refine ⟨(ρ s).2,by simp [Nc],bj,cR.mono rfl (fun o h=> ?_) fun i j u hu e c he hc=>aW.kept ⟨fun _ _ h=> .inl h,fun _ _ _ _ h=>h⟩ c u (hu e c he hc)⟩
 rcases h with h | ⟨s',o',dp,he,hn⟩
 ·exact cR.apart o h
 ·have :=hI.apart s s' _ _ aZ dp he
  subst this
  exact hn hs
theorem GM (hI:Inv w0 S0 N ρ S st a w) {owns:List Nat} {v:AV} {x:DV} {u:Value} (gQ: ∀s,v.has s=true→s ∉ owns) (Aq: ∀s,v.has s=true→ ∀s'∈st.inner s,st.sn s'=true∧s' ∉ owns) (h:snap st v=some x) (hu:aE w S ρ v u) :
  aW w (uM st ρ S owns) x u:=by
 refine iW hI (C:=fun s=>v.has s=true∨(st.sn s=true∧s ∉ owns)) (fun _ _ h=> .inl h) (fun s hs o ho p=> .inr ⟨s,o,ho,rfl,?_⟩) (fun s el sz es hs aZ e he c hc s' dp=> ?_) 6 v x u h hu fun s hs=> .inl hs
 ·rcases hs with hs | ⟨hs,_⟩
  ·refine .inr (Aq s hs s' ?_)
   simp only [St.inner,aZ]
   refine List.mem_flatMap.2 ⟨e,he,?_⟩
   have : ∀(l:List AV),c∈l→s'∈bo l:=by
    intro l
    induction l with
    | nil=>intro h; cases h
    | cons y l ih=>
     intro h
     simp only [bo,List.mem_append]
     rcases List.mem_cons.1 h with rfl | h
     ·exact .inl (fZ c s' dp)
     ·exact .inr (ih h)
   exact this e hc
  ·simp [St.sn,aZ] at hs
 ·rcases hs with hs | ⟨_,hs⟩
  ·exact gQ s hs
  ·exact hs
theorem vK (hI:Inv w0 S0 N ρ S st a w) {owns:List Nat} : ∀(e:List AV) (r:aw) (us:List Value),bm (iO st) e=some r→aS w S ρ e us→(bo e).Nodup→(∀s∈bo e,s∈owns)→
  iY w0.gz w (uM st ρ S owns) r us ((bo e).map fun s=>(ρ s).1)∧r.length=e.length∧r.all DV.one=true∧ ∀s∈bo e,∃o,st.aT s=some o
 | [],r,us,hm,hl,_,_=>by
  simp only [bm,Option.some.injEq] at hm
  subst hm
  simp only [aS] at hl
  exact ⟨by simp only [iY,bo,List.map_nil]; exact ⟨hl,trivial⟩,rfl,rfl,fun s hs=>by simp [bo] at hs⟩
 | c::e,r,us,hm,hl,nj,dh=>by
  simp only [bm] at hm
  cases hc:iO st c with
  | none=>simp [hc] at hm
  | some x=>
   cases GN:bm (iO st) e with
   | none=>simp [hc,GN] at hm
   | some r'=>
    simp only [hc,GN,Option.some.injEq] at hm
    subst hm
    simp only [aS] at hl
    obtain ⟨u,oj,rfl,hu,hl⟩:=hl
    cases c with
    | ah s sz off len=>
     simp only [iO] at hc
     cases aZ:st.aT s with
     | none=>simp [aZ] at hc
     | some o=>
      cases o with
      | mix el bd es=>simp [aZ] at hc
      | aC el bd es=>
       simp only [aZ] at hc
       split at hc
       ·rename_i hh
        obtain ⟨rfl,rfl,rfl⟩:=hh
        simp only [Option.some.injEq] at hc
        subst hc
        simp only [bo,AV.sites,List.singleton_append] at nj dh ⊢
        have RW:=List.nodup_cons.1 nj
        obtain ⟨k1,k2,k3,k4⟩:=vK hI e r' oj GN hl RW.2 fun s' dp=>dh s' (by simp [dp])
        refine ⟨?_,by simp [k2],by simp only [List.all_cons,k3,Bool.and_true]; rfl,fun s' dp=> ?_⟩
        ·simp only [List.map_cons,iY]
         refine ⟨u,oj,_,_,rfl,rfl,CW hI (dh s (by simp)) aZ hu,?_,k1⟩
         intro mY
         obtain ⟨s',dp,bF⟩:=List.mem_map.1 mY
         obtain ⟨o',k7⟩:=k4 s' dp
         have :=hI.apart s s' _ _ aZ k7 bF.symm
         subst this
         exact RW.1 dp
        ·rcases List.mem_cons.1 dp with rfl | dp
         ·exact ⟨_,aZ⟩
         ·exact k4 s' dp
       ·cases hc
    | _=>simp [iO] at hc
theorem tp (hI:Inv w0 S0 N ρ S st a w) {owns:List Nat} : ∀(es:List (List AV)) (rows:aj) (k8:List (List Value)),kr st es=some rows→k8.length=es.length→(∀(i:Nat) (e:List AV) (us:List Value),es[i]? =some e→k8[i]? =some us→aS w S ρ e us)→(es.flatMap bo).Nodup→(∀s∈es.flatMap bo,s∈owns)→
  l2 w0.gz w (uM st ρ S owns) rows k8 ((es.flatMap bo).map fun s=>(ρ s).1)∧rows.length=es.length∧(∀sz,(∀e∈es,e.length=sz)→ ∀r∈rows,r.length=sz∧r.all DV.one=true)∧ ∀s∈es.flatMap bo,∃o,st.aT s=some o
 | [],rows,k8,hm,hl,_,_,_=>by
  simp only [kr,Option.some.injEq] at hm
  subst hm
  have :k8=[]:=List.eq_nil_of_length_eq_zero hl
  subst this
  exact ⟨by simp [l2],rfl,fun _ _ r hr=>by (cases hr),fun s hs=>by simp at hs⟩
 | e::es,rows,[],hm,hl,_,_,_=>by simp at hl
 | e::es,rows,us::k8,hm,hl,hrd,nj,dh=>by
  simp only [kr] at hm
  cases hc:bm (iO st) e with
  | none=>simp [hc] at hm
  | some x=>
   cases GN:kr st es with
   | none=>simp [hc,GN] at hm
   | some r'=>
    simp only [hc,GN,Option.some.injEq] at hm
    subst hm
    simp only [List.flatMap_cons] at nj dh ⊢
    obtain ⟨n1,n2,n3⟩:=List.nodup_append.1 nj
    obtain ⟨k1,k2,k3,k4⟩:=vK hI e x us hc (hrd 0 e us rfl rfl) n1 fun s hs=>dh s (List.mem_append.2 (.inl hs))
    obtain ⟨m1,m2,m3,m4⟩:=tp hI es r' k8 GN (by simpa using hl) (fun i e' oj he hu=>hrd (i+1) e' oj he hu) n2 fun s hs=>dh s (List.mem_append.2 (.inr hs))
    refine ⟨?_,by simp [m2],fun sz iq r hr=> ?_,fun s hs=> ?_⟩
    ·simp only [l2,List.map_append]
     refine ⟨us,k8,_,_,rfl,rfl,k1,m1,fun g hg hg2=> ?_⟩
     obtain ⟨s,hs,rfl⟩:=List.mem_map.1 hg
     obtain ⟨s',dp,bF⟩:=List.mem_map.1 hg2
     obtain ⟨o,ho⟩:=k4 s hs
     obtain ⟨o',Js⟩:=m4 s' dp
     have :=hI.apart s s' _ _ ho Js bF.symm
     exact n3 s hs s' dp this
    ·rcases List.mem_cons.1 hr with rfl | hr
     ·exact ⟨by rw [k2]; exact iq e (by simp),k3⟩
     ·exact m3 sz (fun e' he=>iq e' (by simp [he])) r hr
    ·rcases List.mem_append.1 hs with hs | hs
     ·exact k4 s hs
     ·exact m4 s hs
theorem GO (hI:Inv w0 S0 N ρ S st a w) {owns:List Nat} {s sz el:Nat} {es:List (List AV)} {rows:aj} {u:Value} (hs:s∈owns) (aZ:st.aT s=some (.mix el sz es)) (hw:kr st es=some rows) (nj:(es.flatMap bo).Nodup) (RX:s ∉ es.flatMap bo) (dh: ∀s∈es.flatMap bo,s∈owns) (hu:aE w S ρ (.ah s sz 0 es.length) u) :
  oX w0.gz w (uM st ρ S owns) el sz rows u (ρ s).1 ((es.flatMap bo).map fun s=>(ρ s).1):=by
 obtain ⟨bj,cR⟩:=hI.aT s _ aZ
 simp only [aE] at hu
 obtain ⟨ad,cap,rfl,hb,iz,_,_⟩:=hu
 have Jc:=hb (.inr trivial)
 have Nc:=iz trivial
 subst Jc
 obtain ⟨cur,c1,c2,c3⟩:=cR.here
 have hg: ∀i j,i < es.length→j < sz→ ∃u,cur[i * sz+j]? =some u:=fun i j hi hj=>by
  obtain ⟨u,hu,_⟩:=c3 i j hi hj
  exact ⟨u,hu⟩
 obtain ⟨m1,m2,m3,m4⟩:=tp hI (owns:=owns) es rows ((List.range es.length).map fun i=>(List.range sz).map fun j=>(cur[i * sz+j]?).getD undef) hw (by simp) (fun i e us he gP=>by
  have hi:=(List.getElem?_eq_some_iff.1 he).1
  have :us=(List.range sz).map fun j=>(cur[i * sz+j]?).getD undef:=by
   rw [List.getElem?_map,List.getElem?_range hi] at gP
   simpa using gP.symm
  subst this
  have jn:=(bj e (List.mem_of_getElem? he)).1
  refine aS.mk _ _ (by simp [jn]) fun j c u hc hu=> ?_
  have hj:j < sz:=by rw [← jn]; exact (List.getElem?_eq_some_iff.1 hc).1
  rw [List.getElem?_map,List.getElem?_range hj] at hu
  obtain ⟨u',g7,uz⟩:=c3 i j hi hj
  simp only [Option.map_some,g7,Option.getD_some,Option.some.injEq] at hu
  subst hu
  exact uz e c he hc) nj dh
 refine ⟨(ρ s).2,_,by simp [Nc,m2],m3 sz fun e he=>(bj e he).1,?_,m1,fun hm=> ?_⟩
 ·rw [m2]
  refine ⟨cR.base,⟨cur,c1,c2,fun i j hi hj=> ?_⟩,cR.fits,cR.len,fun o h=> ?_⟩
  ·obtain ⟨u,hu,_⟩:=c3 i j hi hj
   refine ⟨u,hu,fun us u' gP g7=> ?_⟩
   rw [List.getElem?_map,List.getElem?_range hi] at gP
   simp only [Option.map_some,Option.some.injEq] at gP
   subst gP
   rw [List.getElem?_map,List.getElem?_range hj] at g7
   simpa [hu] using g7.symm
  ·rcases h with h | ⟨s',o',dp,he,hn⟩
   ·exact cR.apart o h
   ·have :=hI.apart s s' _ _ aZ dp he
    subst this
    exact hn hs
 ·obtain ⟨s',dp,bF⟩:=List.mem_map.1 hm
  obtain ⟨o',Js⟩:=m4 s' dp
  have :=hI.apart s s' _ _ aZ Js bF.symm
  subst this
  exact RX dp
theorem kR (hI:Inv w0 S0 N ρ S st a w) {owns T:List Nat} : ∀(vs:List AV) (rs:aw) (us:List Value),bm (dL st) vs=some rs→aS w S ρ vs us→(bo vs++(bo vs).flatMap st.inner).Nodup→
  (∀s,s∈bo vs→st.pO T s=true)→(∀s,s∈bo vs++(bo vs).flatMap st.inner→(s∈owns↔s∈dC st vs))→cw w0.gz w (uM st ρ S owns) rs us ((dC st vs).map fun s=>(ρ s).1)
 | [],rs,us,hm,hl,_,_,_=>by
  simp only [bm,Option.some.injEq] at hm
  subst hm
  simp only [aS] at hl
  simp only [cw,dC,List.map_nil]
  exact ⟨hl,trivial⟩
 | v::vs,rs,us,hm,hl,nj,l7,dh=>by
  simp only [bm] at hm
  cases hv:dL st v with
  | none=>simp [hv] at hm
  | some r=>
   cases GN:bm (dL st) vs with
   | none=>simp [hv,GN] at hm
   | some rs'=>
    simp only [hv,GN,Option.some.injEq] at hm
    subst hm
    simp only [aS] at hl
    obtain ⟨u,oj,rfl,hu,hl⟩:=hl
    simp only [bo,List.flatMap_append] at nj l7 dh
    obtain ⟨nAB,nCD,nX⟩:=List.nodup_append.1 nj
    obtain ⟨nA,nB,nab⟩:=List.nodup_append.1 nAB
    obtain ⟨nC,nD,ncd⟩:=List.nodup_append.1 nCD
    have r0: ∀s,(s∈v.sites∨s∈v.sites.flatMap st.inner)→s ∉ dC st vs:=by
     intro s hs ht
     rcases kQ st vs s ht with ht | ht<;>rcases hs with hs | hs
     ·exact nab s hs s ht rfl
     ·exact nX s (List.mem_append.2 (.inr ht)) s (List.mem_append.2 (.inl hs)) rfl
     ·exact nX s (List.mem_append.2 (.inl hs)) s (List.mem_append.2 (.inr ht)) rfl
     ·exact ncd s hs s ht rfl
    have GP: ∀s,s∈bo vs++(bo vs).flatMap st.inner→(s∈owns↔s∈dC st vs):=by
     intro s hs
     have dp:s∈(v.sites++bo vs)++(v.sites.flatMap st.inner++(bo vs).flatMap st.inner):=by
      simp only [List.mem_append] at hs ⊢
      rcases hs with hs | hs
      ·exact .inl (.inr hs)
      ·exact .inr (.inr hs)
     rw [dh s dp]
     simp only [dC,List.mem_append]
     constructor
     ·rintro (h | h)
      ·exfalso
       rcases rh st v s h with h | h<;>rcases List.mem_append.1 hs with hs | hs
       ·exact nab s h s hs rfl
       ·exact nX s (List.mem_append.2 (.inl h)) s (List.mem_append.2 (.inr hs)) rfl
       ·exact nX s (List.mem_append.2 (.inr hs)) s (List.mem_append.2 (.inl h)) rfl
       ·exact ncd s h s hs rfl
      ·exact h
     ·exact .inr
    have ih:=kR hI vs rs' oj GN hl (List.nodup_append.2 ⟨nB,nD,fun x hx y hy=>nX x (List.mem_append.2 (.inr hx)) y (List.mem_append.2 (.inr hy))⟩) (fun s hs=>l7 s (List.mem_append.2 (.inr hs))) GP
    have zi: ∀s,(s∈v.sites∨s∈v.sites.flatMap st.inner)→(s∈owns↔s∈gG st v):=by
     intro s hs
     rw [dh s (by
      simp only [List.mem_append]
      rcases hs with hs | hs
      ·exact .inl (.inl hs)
      ·exact .inr (.inl hs))]
     simp only [dC,List.mem_append]
     exact ⟨fun h=>h.resolve_right (r0 s hs),.inl⟩
    have Bq: ∀s∈v.sites++bo vs,∀s'∈st.inner s,st.sn s'=true:=by
     intro s hs s' dp
     have h1:=l7 s hs
     unfold St.pO at h1
     unfold St.inner at dp
     cases aZ:st.aT s with
     | none=>simp [aZ] at h1
     | some o=>
      cases o with
      | aC el sz es=>simp [aZ] at dp
      | mix el sz es=>
       simp only [aZ] at h1 dp
       obtain ⟨e,he,dp⟩:=List.mem_flatMap.1 dp
       simp only [List.all_eq_true,Bool.and_eq_true] at h1
       have : ∀(l:List AV),s'∈bo l→ ∃c∈l,s'∈c.sites:=by
        intro l
        induction l with
        | nil=>intro h; simp [bo] at h
        | cons y l QG=>
         intro h
         simp only [bo,List.mem_append] at h
         rcases h with h | h
         ·exact ⟨y,by simp,h⟩
         ·obtain ⟨c,hc,h⟩:=QG h
          exact ⟨c,by simp [hc],h⟩
       obtain ⟨c,hc,A5⟩:=this e dp
       exact (h1 e he c hc s' A5).1
    by_cases gQ:gG st v=[]
    ·rw [pg gQ] at hv
     simp only [Option.map_eq_some_iff] at hv
     obtain ⟨x,hx,rfl⟩:=hv
     have h1:=l9 (GM hI (owns:=owns) (fun s hs h=>by
      have :=(zi s (.inl (fZ v s hs))).1 h
      rw [gQ] at this
      cases this) (fun s hs s' dp=>⟨Bq s (List.mem_append.2 (.inl (fZ v s hs))) s' dp,fun h=>by
      have :=(zi s' (.inr (List.mem_flatMap.2 ⟨s,fZ v s hs,dp⟩))).1 h
      rw [gQ] at this
      cases this⟩) hx hu)
     rw [show dC st (v::vs)=dC st vs by simp [dC,gQ]]
     have cR:=ED x
     have q6: ∃v' yX,u::oj=v'::yX∧aW w (uM st ρ S owns) (ct x) v'∧cw w0.gz w (uM st ρ S owns) rs' yX ((dC st vs).map fun s=>(ρ s).1):=⟨u,oj,rfl,h1,ih⟩
     generalize ct x=y at *
     cases y<;>try (simpa only [cw] using q6)
     rename_i k sz es
     cases k<;>first | (simpa only [cw] using q6) | (simp [DV.dX] at cR; done)
    ·cases v with
     | ah s sz off len=>
      cases aZ:st.aT s with
      | none=>simp [gG,aZ] at gQ
      | some o=>
       have xk: ∀s',s'∈dC st vs→ ∃o',st.aT s'=some o':=by
        intro s' dp
        rcases kQ st vs s' dp with h | h
        ·have h1:=l7 s' (List.mem_append.2 (.inr h))
         unfold St.pO at h1
         cases hq:st.aT s' with
         | none=>simp [hq] at h1
         | some o'=>exact ⟨o',rfl⟩
        ·obtain ⟨s2,QC,hs3⟩:=List.mem_flatMap.1 h
         have :=Bq s2 (List.mem_append.2 (.inr QC)) s' hs3
         unfold St.sn at this
         cases hq:st.aT s' with
         | none=>simp [hq] at this
         | some o'=>exact ⟨o',rfl⟩
       cases o with
       | aC el bd es=>
        by_cases hc:bd=sz∧off=0∧len=es.length
        ·have he:gG st (.ah s sz off len)=[s]:=by simp [gG,aZ,hc]
         simp only [dL,aZ,if_pos hc,Option.some.injEq] at hv
         subst hv
         obtain ⟨rfl,rfl,rfl⟩:=hc
         have hs:s∈owns:=(zi s (.inl (by simp [AV.sites]))).2 (by rw [he]; simp)
         simp only [dC,he,List.singleton_append,List.map_cons,cw]
         refine ⟨u,oj,_,_,rfl,rfl,CW hI hs aZ hu,?_,ih⟩
         intro mY
         obtain ⟨s',dp,bF⟩:=List.mem_map.1 mY
         obtain ⟨o',k7⟩:=xk s' dp
         have :=hI.apart s s' _ _ aZ k7 bF.symm
         subst this
         exact r0 s (.inl (by simp [AV.sites])) dp
        ·exact absurd (by simp [gG,aZ,hc]) gQ
       | mix el bd es=>
        by_cases hc:bd=sz∧off=0∧len=es.length
        ·cases hw:kr st es with
         | none=>exact absurd (by simp [gG,aZ,hw]) gQ
         | some rows=>
          have he:gG st (.ah s sz off len)=s::es.flatMap bo:=by simp [gG,aZ,hc,hw]
          simp only [dL,aZ,if_pos hc,hw,Option.some.injEq] at hv
          subst hv
          obtain ⟨rfl,rfl,rfl⟩:=hc
          have Jt:(AV.ah s bd 0 es.length).sites.flatMap st.inner=es.flatMap bo:=by
           simp only [AV.sites,List.flatMap_cons,List.flatMap_nil,List.append_nil,St.inner,aZ]
          have hs:s∈owns:=(zi s (.inl (by simp [AV.sites]))).2 (by rw [he]; simp)
          have hsi: ∀s'∈es.flatMap bo,s'∈owns:=fun s' dp=>(zi s' (.inr (by rw [Jt]; exact dp))).2 (by rw [he]; simp [dp])
          have RX:s ∉ es.flatMap bo:=fun h=>nX s (by simp [AV.sites]) s (List.mem_append.2 (.inl (by rw [Jt]; exact h))) rfl
          rw [Jt] at nC
          have Ju: ∀s'∈es.flatMap bo,∃o',st.aT s'=some o':=fun s' dp=>by
           have :=Bq s (List.mem_append.2 (.inl (by simp [AV.sites]))) s' (by simp only [St.inner,aZ]; exact dp)
           unfold St.sn at this
           cases hq:st.aT s' with
           | none=>simp [hq] at this
           | some o'=>exact ⟨o',rfl⟩
          simp only [dC,he,List.cons_append,List.map_cons,List.map_append,cw]
          refine ⟨u,oj,_,_,_,rfl,rfl,GO hI hs aZ hw nC RX hsi hu,?_,fun g hg mY=> ?_,ih⟩
          ·intro mY
           obtain ⟨s',dp,bF⟩:=List.mem_map.1 mY
           obtain ⟨o',k7⟩:=xk s' dp
           have :=hI.apart s s' _ _ aZ k7 bF.symm
           subst this
           exact r0 s (.inl (by simp [AV.sites])) dp
          ·obtain ⟨s1,qX,rfl⟩:=List.mem_map.1 hg
           obtain ⟨s',dp,bF⟩:=List.mem_map.1 mY
           obtain ⟨o1,RY⟩:=Ju s1 qX
           obtain ⟨o',k7⟩:=xk s' dp
           have :=hI.apart s1 s' _ _ RY k7 bF.symm
           subst this
           exact r0 s1 (.inr (by rw [Jt]; exact qX)) dp
        ·exact absurd (by simp [gG,aZ,hc]) gQ
     | _=>exact absurd rfl gQ
theorem r4 (hI:Inv w0 S0 N ρ S st a w) {owns:List Nat} {r:DV} {u:Value} (h:jv w0.gz w (uM st ρ S owns) r u) :iC w0 S0 r u w (uM st ρ S owns):=by
 refine ⟨hI.below,fun b o h=> .inl (hI.up b o h),?_,?_,h⟩
 ·rintro b o (h | ⟨s,ob,hs,rfl,_⟩)
  ·exact hI.new b o h
  ·exact .inr (hI.aT s ob hs).lt.1
 ·rintro b o (h | ⟨s,ob,hs,rfl,_⟩)
  ·exact hI.live b o h
  ·exact (hI.aT s ob hs).lt.2.1
theorem vL (hI:Inv w0 S0 N ρ S st a w) {v:AV} {u:Value} {r:DV} (hu:aE w S ρ v u) (h:nw st v=some r) : ∃S',iC w0 S0 r u w S':=by
 have zj:(snap st v).map ct=some r→ ∃S',iC w0 S0 r u w S':=by
  intro h
  simp only [Option.map_eq_some_iff] at h
  obtain ⟨x,hx,rfl⟩:=h
  refine ⟨_,r4 hI (owns:=[]) (vJ ?_)⟩
  have h1:=snap_all hI hx hu
  refine aW.kept ⟨fun b o h=> ?_,fun _ _ _ _ h=>h⟩ x u h1
  rcases h with h | ⟨s,ob,hs,he⟩
  ·exact .inl h
  ·exact .inr ⟨s,ob,hs,he,by simp⟩
 unfold nw at h
 split at h
 ·rename_i hc
  simp only [Bool.and_eq_true,List.all_eq_true] at hc
  obtain ⟨nj,l7⟩:=hc
  rw [nodup_iff] at nj
  split at h
  ·rename_i vs
   simp only [Option.map_eq_some_iff] at h
   obtain ⟨rs,hm,rfl⟩:=h
   simp only [aE] at hu
   obtain ⟨us,rfl,hl⟩:=hu
   exact ⟨_,r4 hI (owns:=dC st vs) (by simp only [jv]; exact ⟨us,_,rfl,kR hI (T:=bo vs) vs rs us hm hl nj l7 fun _ _=>Iff.rfl⟩)⟩
  ·rename_i vs
   simp only [Option.map_eq_some_iff] at h
   obtain ⟨rs,hm,rfl⟩:=h
   simp only [aE] at hu
   obtain ⟨us,rfl,hl⟩:=hu
   exact ⟨_,r4 hI (owns:=dC st vs) (by simp only [jv]; exact ⟨us,_,rfl,kR hI (T:=bo vs) vs rs us hm hl nj l7 fun _ _=>Iff.rfl⟩)⟩
  ·by_cases gQ:gG st v=[]
   ·rw [pg gQ] at h
    exact zj h
   obtain ⟨k,sz,es,rfl⟩ : ∃k sz es,r= .sl k sz es:=by
    cases v with
    | ah s sz off len=>
     simp only [gG,dL] at gQ h
     cases aZ:st.aT s with
     | none=>simp [aZ] at gQ
     | some o=>
      cases o with
      | aC el bd es=>
       simp only [aZ] at gQ h
       split at gQ
       ·rename_i hc
        rw [if_pos hc] at h
        cases h
        exact ⟨_,_,_,rfl⟩
       ·exact absurd rfl gQ
      | mix el bd es=>
       simp only [aZ] at gQ h
       split at gQ
       ·rename_i hc
        rw [if_pos hc] at h
        split at gQ
        ·rename_i hw
         rw [hw] at h
         cases h
         exact ⟨_,_,_,rfl⟩
        ·exact absurd rfl gQ
       ·exact absurd rfl gQ
    | _=>exact absurd rfl gQ
   have hL:=kR hI (owns:=dC st [v]) (T:=v.sites) [v] [.sl k sz es] [u] (by simp only [bm,h]) (by simp only [aS]; exact ⟨u,[],rfl,hu,rfl⟩) (by simpa [bo] using nj) (fun s hs=>l7 s (by simpa [bo] using hs)) fun _ _=>Iff.rfl
   refine ⟨_,r4 hI (owns:=dC st [v]) ?_⟩
   generalize (dC st [v]).map (fun s=>(ρ s).1)=gs at hL
   cases k with
   | own el=>
    simp only [cw] at hL
    obtain ⟨v',eo,g,oW,he,_,ho,_⟩:=hL
    cases he
    exact ⟨g,ho⟩
   | cT el=>exact ⟨gs,hL⟩
   | ro=>
    simp only [cw] at hL
    obtain ⟨v',eo,he,ho,_⟩:=hL
    cases he
    exact ho
   | tight=>
    simp only [cw] at hL
    obtain ⟨v',eo,he,ho,_⟩:=hL
    cases he
    exact ho
 ·exact zj h
theorem GQ {t d:Nat} {want:Bool} (ht:a.tmps[t]? ≠some (.bool want)) :(a.put (some d) undef).tmps[t]? ≠some (.bool want):=by
 intro h
 simp only [Act.put] at h
 by_cases LH:d=t
 ·subst LH
  by_cases dZ:d < a.tmps.size
  ·rw [Array.getElem?_setIfInBounds_self_of_lt dZ] at h
   simp [undef] at h
  ·rw [Array.getElem?_eq_none (by simp; omega)] at h
   cases h
 ·rw [Array.getElem?_setIfInBounds_ne LH] at h
  exact ht h
theorem jf {ops:Array Oper} {j t:Nat} {want:Bool} (ht:(ops[j]?).bind (·.dst)=some t) :(yielded ops a.tmps j==some want)=true↔a.tmps[t]? =some (.bool want):=by
 unfold yielded
 rw [ht]
 simp only [Option.bind_some]
 cases h:a.tmps[t]? with
 | none=>simp
 | some v=>cases v<;>simp
theorem nU (hI:Inv w0 S0 N ρ S st a w) {t d:Nat} {want:Bool} {v:AV} (QN:d < N) (ht:a.tmps[t]? ≠some (.bool want)) :Inv w0 S0 N ρ S (st.put d (.w t want v)) (a.put (some d) undef) w:=by
 refine hI.MZ QN (fun h=>absurd rfl (h _ _ _)) (fun t' ck x he h=> ?_) fun _ _ _ _ _=>rfl
 cases he
 exact absurd h (GQ ht)
theorem nV (hI:Inv w0 S0 N ρ S st a w) (aJ:dc P call) {ops:Array Oper} {j:Nat} {o:Oper} {op:bN} (hc:ux P o.type o.op=some op) {t d:Nat} {want:Bool} {v:AV} (ht:(ops[j]?).bind (·.dst)=some t) (hd:o.dst=some d) (QN:d < N) (QO:o.dst≠some t)
  {h:St} (hh:a.tmps[t]? =some (.bool want)→Inv w0 S0 N ρ S h a w) (hv:cC call op h=some v) {K:Act→World→Prop} {Q:Exit→Act→World→Prop} (hK: ∀a' w',cF w0 S0 N (st.put d (.w t want v)) a' w'→K a' w') :
  if (yielded ops a.tmps j==some want)=true then o.wp P a w K Q∨(o.asks P a w∧LetsOut Q) else K (a.put o.dst undef) w:=by
 split
 ·rename_i hy
  have hb:=(jf ht).1 hy
  refine .inl (qe (hh hb) aJ hc hv fun u w' S' e7 hu=>hK _ _ ⟨ρ,S',?_⟩)
  rw [hd]
  have cu:t≠d→(a.put (some d) u).tmps[t]? =some (.bool want):=fun hn=>by
   simp only [Act.put]
   rw [Array.getElem?_setIfInBounds_ne (Ne.symm hn)]
   exact hb
  have LH:t≠d:=fun e=>QO (by rw [e]; exact hd)
  refine (e7 st hI).MZ QN (fun h=>absurd rfl (h _ _ _)) (fun t' ck x he _=> ?_) fun t' ck x he h=> ?_
  ·cases he
   exact hu
  ·cases he
   exact absurd (cu LH) h
 ·rename_i hy
  refine hK _ _ ⟨ρ,S,?_⟩
  rw [hd]
  exact nU hI QN fun hb=>hy ((jf ht).2 hb)
theorem me (hI:Inv w0 S0 N ρ S st a w) {ops:Array Oper} {j:Nat} {o:Oper} {t d:Nat} {want:Bool} {v:AV} (ht:(ops[j]?).bind (·.dst)=some t) (hd:o.dst=some d) (QN:d < N)
  (hb:a.tmps[t]? ≠some (.bool want)) {K:Act→World→Prop} {Q:Exit→Act→World→Prop} (hK: ∀a' w',cF w0 S0 N (st.put d (.w t want v)) a' w'→K a' w') :
  if (yielded ops a.tmps j==some want)=true then o.wp P a w K Q∨(o.asks P a w∧LetsOut Q) else K (a.put o.dst undef) w:=by
 rw [if_neg fun hy=>hb ((jf ht).1 hy)]
 refine hK _ _ ⟨ρ,S,?_⟩
 rw [hd]
 exact nU hI QN hb
theorem gf (aJ:dc P call) {ops:Array Oper} {o:Oper} {i:aN} (hc:ix P R N ops o=some i) (hI:cF w0 S0 N st a w) (h:iw call i st=some st') {K:Act→World→Prop}
  {Q:Exit→Act→World→Prop} (hK: ∀a' w',cF w0 S0 N st' a' w'→K a' w') :
  if Region.wanted o (yielded ops a.tmps) then o.wp P a w K Q∨(o.asks P a w∧LetsOut Q) else K (a.put o.dst undef) w:=by
 obtain ⟨ρ,S,hI⟩:=hI
 unfold ix at hc
 cases cU:ux P o.type o.op with
 | none=>simp [cU] at hc
 | some op=>
  simp only [cU] at hc
  split at hc
  ·rename_i hd
   have ie: ∀d,o.dst=some d→d < N:=by
    intro d cz
    simpa [Cc,cz] using hd
   cases hg:o.guard with
   | none=>
    simp only [hg,Option.some.injEq] at hc
    subst hc
    simp only [iw] at h
    simp only [Region.wanted,hg,if_true]
    split at h
    ·exact .inl (o7 hI aJ cU ie h hK)
    ·split at h
     ·rename_i d cz
      unfold uX at h
      split at h
      rotate_left
      ·exact .inl (Ni hI cU cz (ie d cz) h hK)
      rename_i v0 EB
      cases h
      refine .inl (qe hI aJ cU EB fun u w' S' e7 hu=>hK _ _ ⟨ρ,S',?_⟩)
      rw [cz]
      exact (e7 st hI).put (ie d cz) hu.strip (fun t' want x he=>by cases v0<;>simp [AV.strip] at he)
     ·cases h
   | some jw=>
    obtain ⟨j,want⟩:=jw
    simp only [hg] at hc
    split at hc
    ·rename_i t ht
     split at hc
     ·cases hc
     rename_i QO
     simp only [Option.some.injEq] at hc
     subst hc
     simp only [iw] at h
     simp only [Region.wanted,hg]
     split at h
     ·split at h
      ·rename_i g d Jv cz
       split at h
       ·rename_i v hv
        cases h
        exact nV hI aJ cU ht cz (ie d cz) QO (kJ hI _ _ _ _ Jv) hv hK
       ·split at h
        ·rename_i zk
         cases h
         exact me hI ht cz (ie d cz) (kK hI _ _ _ zk) hK
        ·cases h
      ·cases h
     ·split at h
      ·rename_i dD hb
       obtain ⟨h1,h2⟩:=iD hI _ _ _ _ _ hb
       rw [if_pos ((jf ht).2 (h2.1 rfl))]
       exact .inl (o7 h1 aJ cU ie h hK)
      ·rename_i dD hb
       obtain ⟨h1,h2⟩:=iD hI _ _ _ _ _ hb
       cases h
       have hb:a.tmps[t]? ≠some (.bool want):=fun e=>by
        have :=h2.2 e
        cases this
       rw [if_neg fun hy=>hb ((jf ht).1 hy)]
       refine hK _ _ ⟨ρ,S,?_⟩
       cases cz:o.dst with
       | none=>exact h1
       | some d=>exact nU h1 (ie d cz) hb
      ·cases h
    ·cases hc
  ·cases hc
theorem GR {dst:Option Nat} {op:bN} {st st':St} (h:cJ call dst op st=some st') :aK call dst op st=some st':=by
 cases op<;>first
  | exact h
  | skip
 case call f args=>
  cases dst with
  | none=>exact h
  | some t=>
   simp only [cJ,aK] at h ⊢
   cases hm:bm (snap st) (args.map (·.ev st)) with
   | none=>simp [hm] at h
   | some ds=>
    simp only [hm] at h ⊢
    cases hr:call f ds with
    | none=>simp [hr] at h
    | some r=>
     simp only [hr,Option.bind_some] at h ⊢
     split at h
     ·cases h
     ·rename_i hc
      cases h
      have gF:(ba (args.map (·.ev st))&& !r.dz)=false:=by simpa using hc
      simp only [rD,FH,gF,Bool.and_false,Bool.false_eq_true,if_false]
 case ej g args=>simp [cJ] at h
theorem Br (aJ:dc P call) {ops:Array Oper} {o:Oper} {i i0:aN} (hc:ix P R N ops o=some i0) (hi:(i=i0∧i0.g≠none)∨(i0.g=none∧ ∃b u,i={i0 with uu:=b,up:=u})) (hI:cF w0 S0 N st a w) (h:bD call i st=some st') {K:Act→World→Prop}
  {Q:Exit→Act→World→Prop} (hK: ∀a' w',cF w0 S0 N st' a' w'→K a' w') :
  if Region.wanted o (yielded ops a.tmps) then o.wp P a w K Q∨(o.asks P a w∧LetsOut Q) else K (a.put o.dst undef) w:=by
 obtain ⟨ρ,S,hI⟩:=hI
 rcases hi with ⟨rfl,hg1⟩ | ⟨hg0,b,u,rfl⟩
 case inr=>
  unfold ix at hc
  cases cU:ux P o.type o.op with
  | none=>simp [cU] at hc
  | some op=>
   simp only [cU] at hc
   split at hc
   ·rename_i hd
    have ie: ∀d,o.dst=some d→d < N:=by
     intro d cz
     simpa [Cc,cz] using hd
    cases hg:o.guard with
    | none=>
     simp only [hg,Option.some.injEq] at hc
     subst hc
     simp only [Region.wanted,hg,if_true]
     cases b with
     | false=>
      simp only [bD,aN.e,Option.isNone_none,Bool.not_false,Bool.and_self,if_true] at h
      exact .inl (o7 hI aJ cU ie (st':=st') (GR h) hK)
     | true=>
      simp only [bD,aN.e,Option.isNone_none,Bool.not_true,Bool.and_false,Bool.false_eq_true,if_false] at h
      split at h
      ·rename_i sz x y _
       split at h
       ·rename_i cz
        refine .inl (o7 hI aJ cU ie (st':=st') ?_ hK)
        rw [cz]
        exact h
       ·cases h
      ·obtain ⟨d,v,cz,hv,rfl⟩:=et h
       simp only [fG,Option.map_eq_some_iff] at hv
       obtain ⟨v0,EB,rfl⟩:=hv
       refine .inl (qe hI aJ cU EB fun u w' S' e7 hu=>hK _ _ ⟨ρ,S',?_⟩)
       dsimp only at cz
       rw [cz]
       exact (e7 st hI).put (ie d cz) hu.strip (fun t' want x he=>by cases v0<;>simp [AV.strip] at he)
    | some jw=>
     obtain ⟨j,want⟩:=jw
     simp only [hg] at hc
     split at hc
     ·split at hc
      ·cases hc
      ·cases hc
       cases hg0
     ·cases hc
   ·cases hc
 have he:i.e=false:=by
  unfold aN.e
  cases hg:i.g with
  | none=>exact absurd hg hg1
  | some _=>rfl
 simp only [bD,he,Bool.false_eq_true,if_false] at h
 unfold ix at hc
 cases cU:ux P o.type o.op with
 | none=>simp [cU] at hc
 | some op=>
  simp only [cU] at hc
  split at hc
  ·rename_i hd
   have ie: ∀d,o.dst=some d→d < N:=by
    intro d cz
    simpa [Cc,cz] using hd
   cases hg:o.guard with
   | none=>
    simp only [hg,Option.some.injEq] at hc
    subst hc
    exact absurd rfl hg1
   | some jw=>
    obtain ⟨j,want⟩:=jw
    simp only [hg] at hc
    split at hc
    ·rename_i t ht
     split at hc
     ·cases hc
     rename_i QO
     simp only [Option.some.injEq] at hc
     subst hc
     simp only [Region.wanted,hg]
     dsimp only at h
     split at h
     ·cases h
     ·obtain ⟨d,v,cz,hv,rfl⟩:=et h
      simp only [fG] at hv
      split at hv
      ·rename_i g Jv
       split at hv
       ·split at hv
        ·rename_i v0 EB
         cases hv
         exact nV hI aJ cU ht cz (ie d cz) QO (kJ hI _ _ _ _ Jv) EB hK
        ·split at hv
         ·rename_i zk
          cases hv
          exact me hI ht cz (ie d cz) (kK hI _ _ _ zk) hK
         ·cases hv
       ·split at hv
        ·rename_i zk
         cases hv
         exact me hI ht cz (ie d cz) (kK hI _ _ _ zk) hK
        ·simp only [Option.map_eq_some_iff] at hv
         obtain ⟨v0,EB,rfl⟩:=hv
         exact nV hI aJ cU ht cz (ie d cz) QO (kJ hI _ _ _ _ Jv) EB hK
      ·cases hv
    ·cases hc
  ·cases hc
theorem qm (aJ:dc P call) {ops:Array Oper} {Q:Exit→Act→World→Prop} : ∀(n k:Nat) (l:List aN),k+n=ops.size→bm (ix P R N ops) (ops.toList.drop k)=some l→ ∀(st st':St) (a:Act) (w:World),
  cF w0 S0 N st a w→ko call l st=some st'→(∀a' w',cF w0 S0 N st' a' w'→Q .normal a' w')→wpOps P ops Q (List.range' k n) a w
 | 0,k,l,hk,hm,st,st',a,w,hI,h,hQ=>by
  have :ops.toList.drop k=[]:=List.drop_eq_nil_of_le (by simp; omega)
  rw [this] at hm
  simp only [bm,Option.some.injEq] at hm
  subst hm
  simp only [ko,Option.some.injEq] at h
  subst h
  simpa [wpOps] using hQ a w hI
 | n+1,k,l,hk,hm,st,st',a,w,hI,h,hQ=>by
  have dZ:k < ops.size:=by omega
  have hd:ops.toList.drop k=ops[k]::ops.toList.drop (k+1):=by
   rw [List.drop_eq_getElem_cons (by simpa using dZ)]
   simp
  rw [hd] at hm
  simp only [bm] at hm
  cases hi:ix P R N ops ops[k] with
  | none=>simp [hi] at hm
  | some i=>
   cases Ap:bm (ix P R N ops) (ops.toList.drop (k+1)) with
   | none=>simp [hi,Ap] at hm
   | some l'=>
    simp only [hi,Ap,Option.some.injEq] at hm
    subst hm
    simp only [ko] at h
    cases hs:iw call i st with
    | none=>simp [hs] at h
    | some dD=>
     simp only [hs,Option.bind_some] at h
     simp only [List.range'_succ,wpOps,Array.getElem?_eq_getElem dZ]
     exact gf aJ hi hI hs fun a' w' e7=>qm aJ n (k+1) l' (by omega) Ap dD st' a' w' e7 h hQ
mutual
theorem aE.gp {w:World} {S:Nat→Nat→Prop} {ρ ρ':Nat→Nat×Nat} {s t:Nat} (hρ: ∀n,n≠t→ρ' n=ρ n) (ht:ρ' t=ρ s) : ∀(x:AV) (v:Value),x.has t=false→aE w S ρ x v→aE w S ρ' (x.gp s t) v
 | .d x,v,_,h=>by simpa only [AV.gp,aE] using h
 | .ah s' sz off n,v,hn,h=>by
  simp only [AV.has,beq_eq_false_iff_ne] at hn
  simp only [AV.gp]
  cases hs:Nat.beq s' s with
  | true=>
   have :=Nat.eq_of_beq_eq_true hs
   subst this
   simp only [cond_true,aE,ht] at h ⊢
   exact h
  | false=>
   simp only [cond_false,aE,hρ s' hn] at h ⊢
   exact h
 | .ptr s' sz i off,v,hn,h=>by
  simp only [AV.has,beq_eq_false_iff_ne] at hn
  simp only [AV.gp]
  cases hs:Nat.beq s' s with
  | true=>
   have :=Nat.eq_of_beq_eq_true hs
   subst this
   simp only [cond_true,aE,ht] at h ⊢
   exact h
  | false=>
   simp only [cond_false,aE,hρ s' hn] at h ⊢
   exact h
 | .mA s' sz i off n,v,hn,h=>by
  simp only [AV.has,beq_eq_false_iff_ne] at hn
  simp only [AV.gp]
  cases hs:Nat.beq s' s with
  | true=>
   have :=Nat.eq_of_beq_eq_true hs
   subst this
   simp only [cond_true,aE,ht] at h ⊢
   exact h
  | false=>
   simp only [cond_false,aE,hρ s' hn] at h ⊢
   exact h
 | .w _ _ _,v,_,h=>by simp only [AV.gp,aE]
 | .undef,v,_,h=>by simp only [AV.gp,aE]
 | .func f cs,v,hn,h=>by
  simp only [AV.has] at hn
  simp only [AV.gp,aE] at h ⊢
  obtain ⟨vs,h1,h2⟩:=h
  exact ⟨vs,h1,aS.gp hρ ht cs vs hn h2⟩
 | .agg cs,v,hn,h=>by
  simp only [AV.has] at hn
  simp only [AV.gp,aE] at h ⊢
  obtain ⟨vs,h1,h2⟩:=h
  exact ⟨vs,h1,aS.gp hρ ht cs vs hn h2⟩
 | .tuple cs,v,hn,h=>by
  simp only [AV.has] at hn
  simp only [AV.gp,aE] at h ⊢
  obtain ⟨vs,h1,h2⟩:=h
  exact ⟨vs,h1,aS.gp hρ ht cs vs hn h2⟩
theorem aS.gp {w:World} {S:Nat→Nat→Prop} {ρ ρ':Nat→Nat×Nat} {s t:Nat} (hρ: ∀n,n≠t→ρ' n=ρ n) (ht:ρ' t=ρ s) : ∀(cs:List AV) (vs:List Value),eJ t cs=false→aS w S ρ cs vs→aS w S ρ' (rB s t cs) vs
 | [],vs,_,h=>by simpa only [rB,aS] using h
 | c::cs,vs,hn,h=>by
  simp only [eJ,Bool.or_eq_false_iff] at hn
  simp only [rB,aS] at h ⊢
  obtain ⟨u,us,h1,h2,h3⟩:=h
  exact ⟨u,us,h1,aE.gp hρ ht c u hn.1 h2,aS.gp hρ ht cs us hn.2 h3⟩
end
theorem ph (s t:Nat) : ∀l:List AV,rB s t l=l.map (AV.gp s t)
 | []=>rfl
 | x::l=>by simp only [rB,List.map_cons,ph s t l]
theorem Jw (s t:Nat) (v:AV) :(v.gp s t).one=v.one:=by cases v<;>rfl
theorem Jx (t:Nat) (v:AV) :(v.kill t).has t=false:=by
 unfold AV.kill
 split
 ·rfl
 ·simp_all
theorem nW {t:Nat} {o o':Ob} (h:o.kill t=some o') :o'=o∧o.has t=false:=by
 unfold Ob.kill at h
 split at h<;>cases h
 exact ⟨rfl,by simp_all⟩
theorem bO.gp {B:Nat→Prop} {w:World} {S:Nat→Nat→Prop} {ρ ρ':Nat→Nat×Nat} {s t n n':Nat} (hρ: ∀n,n≠t→ρ' n=ρ n) (ht:ρ' t=ρ s) (hn:ρ' n'=ρ n) {o:Ob} (ho:o.has t=false) (h:bO B w S ρ n o) :bO B w S ρ' n' (o.gp s t):=by
 cases o with
 | aC el sz es=>
  refine ⟨h.1,?_⟩
  rw [hn]
  exact h.2
 | mix el sz es=>
  refine ⟨fun e he=> ?_,?_⟩
  ·obtain ⟨e0,uB,rfl⟩:=List.mem_map.1 he
   have :=h.1 e0 uB
   rw [ph]
   refine ⟨by simpa using this.1,?_⟩
   rw [List.all_map,← this.2]
   congr 1
   funext v
   exact Jw s t v
  ·rw [hn]
   have h2:=h.2
   simp only [List.length_map]
   refine h2.mono rfl h2.apart fun i j u hu e c he hc=> ?_
   rw [List.getElem?_map] at he
   cases uB:es[i]? with
   | none=>simp [uB] at he
   | some e0=>
    simp only [uB,Option.map_some,Option.some.injEq] at he
    subst he
    rw [ph,List.getElem?_map] at hc
    cases qU:e0[j]? with
    | none=>simp [qU] at hc
    | some c0=>
     simp only [qU,Option.map_some,Option.some.injEq] at hc
     subst hc
     simp only [Ob.has,List.any_eq_false,Bool.not_eq_true] at ho
     exact aE.gp hρ ht c0 u (cA.1 (ho e0 (List.mem_of_getElem? uB)) c0 (List.mem_of_getElem? qU)) (hu e0 c0 uB qU)
theorem Inv.gp (hI:Inv w0 S0 N ρ S st a w) {s t:Nat} (gn:s≠t) (hp:t % 100000≠99999) :Inv w0 S0 N (fun n=>if n=t then ρ s else ρ n) S (st.gp s t) a w:=by
 have hρ: ∀n,n≠t→(fun n=>if n=t then ρ s else ρ n) n=ρ n:=fun n hn=>by simp [hn]
 have ht:(fun n=>if n=t then ρ s else ρ n) t=ρ s:=by simp
 have aZ: ∀n o,(st.gp s t).aT n=some o→n≠s∧ ∃m o1,st.aT m=some o1∧o1.has t=false∧o=o1.gp s t∧(if n=t then ρ s else ρ n)=ρ m∧m=(if n=t then s else n):=by
  intro n o hn
  simp only [St.gp] at hn
  cases h1:Nat.beq n s with
  | true=>simp [h1] at hn
  | false=>
   have RX:n≠s:=fun e=>by subst e; simp at h1
   refine ⟨RX,?_⟩
   simp only [h1,cond_false] at hn
   cases h2:Nat.beq n t with
   | true=>
    have :=Nat.eq_of_beq_eq_true h2
    subst this
    simp only [h2,cond_true,Option.map_eq_some_iff,Option.bind_eq_some_iff] at hn
    obtain ⟨o2,⟨o1,qX,hk⟩,rfl⟩:=hn
    obtain ⟨rfl,hh⟩:=nW hk
    exact ⟨s,_,qX,hh,rfl,if_pos rfl,(if_pos rfl).symm⟩
   | false=>
    have A4:n≠t:=fun e=>by subst e; simp at h2
    simp only [h2,cond_false,Option.map_eq_some_iff,Option.bind_eq_some_iff] at hn
    obtain ⟨o2,⟨o1,qX,hk⟩,rfl⟩:=hn
    obtain ⟨rfl,hh⟩:=nW hk
    exact ⟨n,_,qX,hh,rfl,if_neg A4,(if_neg A4).symm⟩
 refine ⟨hI.size,hI.defers,fun n=> ?_,fun n t' want v he h=> ?_,fun n t' want v he h=> ?_,fun n o hn=> ?_,fun n m o o' hn hm he=> ?_,hI.live,hI.up,hI.new,hI.below,hI.small,fun n hn=>by rw [if_neg fun e=>hp (by rw [← e]; exact hn)]; exact hI.pins n hn⟩
 ·refine aE.gp hρ ht _ _ (Jx t _) ?_
  unfold AV.kill
  split
  ·simp only [aE]
  ·exact hI.env n
 ·simp only [St.gp,AV.kill] at he
  split at he
  ·simp [AV.gp] at he
  ·rename_i hh
   cases hx:st.env n<;>simp only [hx,AV.gp,reduceCtorEq] at he
   cases he
   refine aE.gp hρ ht _ _ ?_ (hI.fV n _ _ _ hx h)
   simpa [hx,AV.has] using hh
 ·simp only [St.gp,AV.kill] at he
  split at he
  ·simp [AV.gp] at he
  ·cases hx:st.env n<;>simp only [hx,AV.gp,reduceCtorEq] at he
   cases he
   exact hI.kx n _ _ _ hx h
 ·obtain ⟨_,m,o1,h1,h2,rfl,h3,_⟩:=aZ n o hn
  exact bO.gp hρ ht h3 h2 (hI.aT m o1 h1)
 ·obtain ⟨g1,m1,o1,h1,_,_,h3,h4⟩:=aZ n o hn
  obtain ⟨g2,m2,o2,k1,_,_,k3,k4⟩:=aZ m o' hm
  rw [h3,k3] at he
  have :=hI.apart m1 m2 o1 o2 h1 k1 he
  rw [h4,k4] at this
  split at this<;>split at this<;>first | omega | (subst this; contradiction) | (exact absurd this (by omega))
theorem cF.k5: ∀(fs:List Nat) (st:St),cF w0 S0 N st a w→cF w0 S0 N (St.k5 fs st) a w
 | [],st,h=>h
 | t::l,st,⟨ρ,S,h⟩=>by
  simp only [St.k5]
  refine cF.k5 l _ ?_
  cases hb:Nat.beq ((t+50000) % 100000) 99999 with
  | true=>exact ⟨ρ,S,h⟩
  | false=>exact ⟨_,S,h.gp (s:=t) (t:=t+50000) (by omega) fun e=>by rw [e] at hb; cases hb⟩
theorem CX {s t d:Nat} (hd:d≠t) : ∀v:AV,v.has d=false∨d=s→(v.gp s t).has d=false:=by
 have key: ∀v:AV,(v.has d=false∨d=s→(v.gp s t).has d=false):=fun v=>AV.rec (motive_1:=fun v=>(v.has d=false∨d=s→(v.gp s t).has d=false)) (motive_2:=fun l=>(eJ d l=false∨d=s→eJ d (rB s t l)=false))
  (fun x _=>rfl)
  (fun s' sz off n h=>by
   simp only [AV.gp,AV.has,beq_eq_false_iff_ne] at h ⊢
   cases hs:Nat.beq s' s with
   | true=>simpa using hd.symm
   | false=>
    have :s'≠s:=fun e=>by subst e; simp at hs
    simp only [cond_false]
    rcases h with h | rfl
    ·exact h
    ·exact this)
  (fun s' sz i off h=>by
   simp only [AV.gp,AV.has,beq_eq_false_iff_ne] at h ⊢
   cases hs:Nat.beq s' s with
   | true=>simpa using hd.symm
   | false=>
    have :s'≠s:=fun e=>by subst e; simp at hs
    simp only [cond_false]
    rcases h with h | rfl
    ·exact h
    ·exact this)
  (fun s' sz i off n h=>by
   simp only [AV.gp,AV.has,beq_eq_false_iff_ne] at h ⊢
   cases hs:Nat.beq s' s with
   | true=>simpa using hd.symm
   | false=>
    have :s'≠s:=fun e=>by subst e; simp at hs
    simp only [cond_false]
    rcases h with h | rfl
    ·exact h
    ·exact this)
  (fun f cs ih h=>ih h) (fun cs ih h=>ih h) (fun cs ih h=>ih h) (fun q want v ih h=>ih h) (fun _=>rfl)
  (fun _=>rfl)
  (fun v l ih1 QG h=>by
   simp only [eJ,rB,Bool.or_eq_false_iff] at h ⊢
   rcases h with h | h
   ·exact ⟨ih1 (.inl h.1),QG (.inl h.2)⟩
   ·exact ⟨ih1 (.inr h),QG (.inr h)⟩) v
 exact key
theorem Bs {s t d:Nat} (hd:d≠t) (o:Ob) (h:o.has d=false∨d=s) :(o.gp s t).has d=false:=by
 cases o with
 | aC=>rfl
 | mix el sz es=>
  simp only [Ob.gp,Ob.has,List.any_eq_false,Bool.not_eq_true] at h ⊢
  intro e he
  obtain ⟨e0,uB,rfl⟩:=List.mem_map.1 he
  rw [ph]
  refine cA.2 fun c hc=> ?_
  obtain ⟨c0,qU,rfl⟩:=List.mem_map.1 hc
  refine CX hd c0 (h.imp (fun h=> ?_) id)
  exact cA.1 (h e0 uB) c0 qU
theorem GS {s t d:Nat} (hd:d≠t) (st:St) (h:st.No d∨d=s) :(st.gp s t).No d:=by
 refine ⟨fun n=>CX hd _ (h.imp (fun h=>qh (h.env n)) id),fun n o hn=> ?_,?_⟩
 ·have fin: ∀m,((st.aT m).bind (Ob.kill t)).map (Ob.gp s t)=some o→o.has d=false:=by
   intro m hm
   simp only [Option.map_eq_some_iff,Option.bind_eq_some_iff] at hm
   obtain ⟨o2,⟨o1,qX,hk⟩,rfl⟩:=hm
   obtain ⟨rfl,_⟩:=nW hk
   exact Bs hd _ (h.imp (fun h=>h.aT m _ qX) id)
  simp only [St.gp] at hn
  cases h1:Nat.beq n s with
  | true=>simp [h1] at hn
  | false=>
   simp only [h1,cond_false] at hn
   cases h2:Nat.beq n t with
   | true=>simp only [h2,cond_true] at hn; exact fin _ hn
   | false=>simp only [h2,cond_false] at hn; exact fin _ hn
 ·simp only [St.gp]
  cases h1:Nat.beq d s with
  | true=>rfl
  | false=>
   have fi:d≠s:=fun e=>by subst e; simp at h1
   have h2:Nat.beq d t=false:=by
    cases hb:Nat.beq d t with
    | true=>exact absurd (Nat.eq_of_beq_eq_true hb) hd
    | false=>rfl
   simp only [h2,cond_false]
   rcases h with h | h
   ·rw [h.free]; rfl
   ·exact absurd h fi
theorem zl {d:Nat} (hd:d < 49999) : ∀(fs:List Nat) (st:St),st.No d∨d∈fs→(St.k5 fs st).No d
 | [],st,h=>by
  rcases h with h | h
  ·exact h
  ·cases h
 | t::l,st,h=>by
  simp only [St.k5]
  refine zl hd l _ ?_
  have cu:d≠t+50000:=by omega
  cases hb:Nat.beq ((t+50000) % 100000) 99999 with
  | true=>
   have rX:=Nat.eq_of_beq_eq_true hb
   simp only [cond_true]
   rcases h with h | h
   ·exact .inl h
   ·rcases List.mem_cons.1 h with h | h
    ·omega
    ·exact .inr h
  | false=>
  simp only [cond_false]
  rcases h with h | h
  ·exact .inl (GS cu st (.inl h))
  ·rcases List.mem_cons.1 h with h | h
   ·exact .inl (GS cu st (.inr h))
   ·exact .inr h
theorem tq: ∀{l:List aN} {i:aN} {d:Nat},i∈l→i.f=true→i.dst=some d→d∈kq l
 | [],i,d,h,_,_=>by cases h
 | x::l,i,d,h,hf,hd=>by
  simp only [kq]
  rcases List.mem_cons.1 h with rfl | h
  ·simp [hf,hd]
  ·have :=tq h hf hd
   cases x.f with
   | false=>simpa using this
   | true=>
    simp only [cond_true]
    split
    ·exact List.mem_cons.2 (.inr this)
    ·exact this
def todo (n:Nat) (bE:Array Bool) :List Nat:=(List.range n).filter fun i=> !bE.getD i true
theorem mf (n:Nat) (bE:Array Bool) :(todo n bE).Pairwise (·< ·):=List.Pairwise.filter _ List.pairwise_lt_range
theorem j1 {n:Nat} {bE:Array Bool} {i:Nat} :i∈todo n bE↔i < n∧bE.getD i true=false:=by
 simp [todo]
theorem GU {n:Nat} {bE:Array Bool} (hl:bE.size=n) {i:Nat} {pre post:List Nat} (h:todo n bE=pre++i::post) :todo n (bE.setIfInBounds i true)=pre++post:=by
 have hs:=mf n bE
 rw [h] at hs
 have hi:i < bE.size:=by
  have :i∈todo n bE:=by rw [h]; simp
  have :=(j1.1 this).1
  omega
 have h1:todo n (bE.setIfInBounds i true)=(todo n bE).filter fun k=>k !=i:=by
  simp only [todo,List.filter_filter]
  refine List.filter_congr fun k hk=> ?_
  by_cases Jy:k=i
  ·subst Jy
   simp [Array.getD_eq_getD_getElem?,hi]
  ·have :(bE.setIfInBounds i true)[k]? =bE[k]? :=Array.getElem?_setIfInBounds_ne (Ne.symm Jy)
   simp [Array.getD_eq_getD_getElem?,this,Jy]
 rw [h1,h,List.filter_append,List.filter_cons]
 rw [List.pairwise_append] at hs
 obtain ⟨_,h2,h3⟩:=hs
 rw [List.pairwise_cons] at h2
 have e1:pre.filter (fun k=>k !=i)=pre:=List.filter_eq_self.2 fun k hk=>by
  have :=h3 k hk i (by simp)
  simp; omega
 have e2:post.filter (fun k=>k !=i)=post:=List.filter_eq_self.2 fun k hk=>by
  have :=h2.1 k hk
  simp; omega
 simp [e1,e2]
theorem qn {ops:Array Oper} {bE:Array Bool} {i:Nat} :i∈Region.ready .any ops bE↔ ∃o,ops[i]? =some o∧bE.getD i true=false∧ ∀k∈gx o,bE.getD k false=true:=by
 simp only [Region.ready,List.mem_filter,List.mem_range,Bool.and_eq_true,Bool.not_eq_true']
 constructor
 ·rintro ⟨h1,h2,h3⟩
  refine ⟨ops[i],Array.getElem?_eq_getElem h1,h2,fun k hk=> ?_⟩
  rw [Array.getElem?_eq_getElem h1] at h3
  simp only [Option.map_some,Option.getD_some,Array.all_eq_true] at h3
  simp only [gx,List.mem_map,List.mem_filter] at hk
  obtain ⟨e,⟨he,hb⟩,rfl⟩:=hk
  obtain ⟨p,hp,rfl⟩:=Array.mem_iff_getElem.1 (Array.mem_toList_iff.1 he)
  have :=h3 p hp
  simpa [hb] using this
 ·rintro ⟨o,ho,h2,h3⟩
  refine ⟨(Array.getElem?_eq_some_iff.1 ho).1,h2,?_⟩
  rw [ho]
  simp only [Option.map_some,Option.getD_some,Array.all_eq_true]
  intro p hp
  cases hb:Region.binds .any o.after[p]
  ·simp
  ·simp only [Bool.not_true,Bool.false_or]
   exact h3 _ (List.mem_map.2 ⟨o.after[p],List.mem_filter.2 ⟨by simp,hb⟩,rfl⟩)
theorem ri: ∀(l:List aN),nk l (List.range l.length)=l
 | []=>rfl
 | x::l=>by
  have ih:=ri l
  unfold nk at ih ⊢
  rw [List.length_cons,List.range_succ_eq_map,List.filterMap_cons]
  simp only [List.getElem?_cons_zero]
  rw [List.filterMap_map]
  congr 1
theorem Bt (aJ:dc P call) {ops:Array Oper} {l l0:List aN} {dyn:List (Nat×Nat)} (hm:bm (ix P R N ops) ops.toList=some l0) (CY:l.length=l0.length) (Rr: ∀(i:Nat) (y:aN),l[i]? =some y→ ∃x:aN,l0[i]? =some x∧((y=x∧x.g≠none)∨(x.g=none∧ ∃b u,y={x with uu:=b,up:=u}))) (F7:Lm l=true)
  (ab':Cg l (ops.toList.map gx) (FN (ops.toList.map gx) []) dyn=true)
  (pf:dyn.all (iN st')=true) {Q:Exit→Act→World→Prop} (hQ: ∀a' w',cF w0 S0 N st' a' w'→Q .normal a' w') :
  ∀(fuel:Nat) (bE:Array Bool) (st:St) (a:Act) (w:World),bE.size=ops.size→(∀k o,ops[k]? =some o→bE.getD k false=true→ ∀p∈gx o,bE.getD p false=true)→
   (todo ops.size bE).length=fuel→rf l (todo ops.size bE) st→cF w0 S0 N st a w→mV call (nk l (todo ops.size bE)) st=some st'→wpAny P .any ops Q fuel bE a w:=by
 obtain ⟨hlen,An⟩:=ju hm
 have agq:l.length=ops.size:=by rw [CY,hlen]; simp
 have LI: ∀i < l.length,(∀k∈((ops.toList.map gx).getD i []),k < i)∧ ∀j < i,(j∈(ops.toList.map gx).getD i []∨((FN (ops.toList.map gx) []).getD i 0).testBit j=true)∨nz l j i=true∨ ∃ps,qR l j i ((ops.toList.map gx).getD i [])=some ps∧ ∀p∈ps,p∈dyn:=by
  intro i hi
  have h1:=List.all_eq_true.1 ab' i (List.mem_range.2 hi)
  simp only [Bool.and_eq_true] at h1
  refine ⟨fun k hk=>by simpa using List.all_eq_true.1 h1.1 k hk,fun j hj=> ?_⟩
  have h2:=List.all_eq_true.1 h1.2 j (List.mem_range.2 hj)
  simp only [Bool.or_eq_true,List.contains_eq_mem,decide_eq_true_eq] at h2
  rcases h2 with ((h2 | h2) | h2) | h2
  ·exact .inl (.inl h2)
  ·exact .inr (.inl h2)
  ·exact .inl (.inr h2)
  ·cases hp:qR l j i ((ops.toList.map gx).getD i []) with
   | none=>rw [hp] at h2; simp at h2
   | some p=>rw [hp] at h2; exact .inr (.inr ⟨p,rfl,fun q hq=>by simpa using List.all_eq_true.1 h2 q hq⟩)
 have EC: ∀i o,ops[i]? =some o→(ops.toList.map gx).getD i []=gx o:=by
  intro i o ho
  rw [List.getD_eq_getElem?_getD,List.getElem?_map,Array.getElem?_toList,ho]
  rfl
 intro fuel
 induction fuel with
 | zero=>
  intro bE st a w hl jo hf hF hI h
  have p':=List.eq_nil_of_length_eq_zero hf
  rw [p'] at h
  simp only [nk,List.filterMap_nil,mV,Option.some.injEq] at h
  subst h
  refine ⟨?_,hQ a w hI⟩
  rw [List.eq_nil_iff_forall_not_mem]
  intro i hi
  obtain ⟨o,ho,hli,_⟩:=qn.1 hi
  have :i∈todo ops.size bE:=j1.2 ⟨(Array.getElem?_eq_some_iff.1 ho).1,hli⟩
  rw [p'] at this
  cases this
 | succ fuel ih=>
  intro bE st a w hl jo hf hF hI h
  refine ⟨fun p'=> ?_,fun i hi=> ?_⟩
  ·exfalso
   cases ht:todo ops.size bE with
   | nil=>rw [ht] at hf; simp at hf
   | cons k0 rest=>
    have hk0:k0∈todo ops.size bE:=by rw [ht]; simp
    obtain ⟨g1,g2⟩:=j1.1 hk0
    have hs:=mf ops.size bE
    rw [ht,List.pairwise_cons] at hs
    have :k0∈Region.ready .any ops bE:=by
     refine qn.2 ⟨ops[k0],Array.getElem?_eq_getElem g1,g2,fun k hk=> ?_⟩
     have dZ:=(LI k0 (by omega)).1 k (by rw [EC k0 _ (Array.getElem?_eq_getElem g1)]; exact hk)
     cases hlk:bE.getD k false with
     | true=>rfl
     | false=>
      have hkt:k∈todo ops.size bE:=j1.2 ⟨by omega,by
       have Jz:k < bE.size:=by omega
       simp only [Array.getD_eq_getD_getElem?,Array.getElem?_eq_getElem Jz,Option.getD_some] at hlk ⊢
       exact hlk⟩
      rw [ht] at hkt
      rcases List.mem_cons.1 hkt with rfl | hkt
      ·omega
      ·have :=hs.1 k hkt
       omega
    rw [p'] at this
    cases this
  ·obtain ⟨o,ho,hli,uC⟩:=qn.1 hi
   have hio:i < ops.size:=(Array.getElem?_eq_some_iff.1 ho).1
   have hit:i∈todo ops.size bE:=j1.2 ⟨hio,hli⟩
   obtain ⟨pre,post,ht⟩:=List.append_of_mem hit
   have hs:=mf ops.size bE
   rw [ht] at hs h
   have RZ: ∀k∈pre++i::post,bE.getD k false≠true:=by
    intro k hk h2
    rw [← ht] at hk
    have h1:=(j1.1 hk)
    have Jz:k < bE.size:=by omega
    simp only [Array.getD_eq_getD_getElem?,Array.getElem?_eq_getElem Jz,Option.getD_some] at h1 h2
    rw [h2] at h1
    cases h1.2
   have RS: ∀k∈pre++i::post,k ∉ gx o:=fun k hk hkp=>RZ k hk (uC k hkp)
   have hFp:=hF
   rw [ht] at hFp
   have hb:=GL (call:=call) (l:=l) F7 (pr:=gx o) (s':=st') pre st hFp hs RS (fun j hj=>by
    have hji:j < i:=(List.pairwise_append.1 hs).2.2 j hj i (by simp)
    have h1:=(LI i (by omega)).2 j hji
    rw [EC i o ho] at h1
    rcases h1 with (h1 | h1) | h1 | ⟨p,h1,h2⟩
    ·exact absurd h1 (RS j (by simp [hj]))
    ·exfalso
     have hR:=GJ (all:=ops.toList.map gx) (R:=fun i j=>(∀p∈(ops.toList.map gx).getD i [],bE.getD p false=true)→bE.getD j false=true)
      (fun i k hk hp=>hp k hk)
      (fun i k j hk hkj hp=>hkj fun p QM=>by
       have hlk:=hp k hk
       cases fD:ops[k]? with
       | none=>
        rw [List.getD_eq_getElem?_getD,List.getElem?_map,Array.getElem?_toList,fD] at QM
        simp at QM
       | some ok=>
        rw [EC k ok fD] at QM
        exact jo k ok fD hlk p QM)
      (ops.toList.map gx) [] [] rfl rfl (fun i j h=>by simp at h) i j h1
     exact RZ j (by simp [hj]) (hR fun p hp=>uC p (by rwa [EC i o ho] at hp))
    ·exact .inl h1
    ·exact .inr ⟨p,h1,fun q hq=>List.all_eq_true.1 pf q (h2 q hq)⟩) h
   obtain ⟨x0,hx0,hcx⟩:=An i o (by rw [Array.getElem?_toList]; exact ho)
   have hil:i < l.length:=by omega
   obtain ⟨x1,hx1,hy0⟩:=Rr i l[i] (List.getElem?_eq_getElem hil)
   rw [hx0] at hx1
   cases hx1
   obtain ⟨y,hy,Fv⟩ : ∃y,l[i]? =some y∧((y=x0∧x0.g≠none)∨(x0.g=none∧ ∃b u,y={x0 with uu:=b,up:=u})):=⟨l[i],List.getElem?_eq_getElem hil,hy0⟩
   rw [je hy] at hb
   simp only [mV] at hb
   cases h1:bD call y st with
   | none=>simp [h1] at hb
   | some dD=>
    simp only [h1,Option.bind_some] at hb
    simp only [wpOp,ho]
    refine Br aJ hcx Fv hI h1 fun a' w' e7=> ?_
    have LH:=GU hl ht
    have R3: ∀k,bE.getD k false=true→(bE.setIfInBounds i true).getD k false=true:=by
     intro k hk
     by_cases Jy:k=i
     ·subst Jy
      have :k < bE.size:=by omega
      simp [Array.getD_eq_getD_getElem?,this]
     ·have he:(bE.setIfInBounds i true)[k]? =bE[k]? :=Array.getElem?_setIfInBounds_ne (Ne.symm Jy)
      simpa only [Array.getD_eq_getD_getElem?,he] using hk
    refine ih (bE.setIfInBounds i true) dD a' w' (by simpa using hl) (fun k ok fD hk p hp=>R3 p ?_) ?_ ?_ e7 (by rw [LH]; exact hb)
    ·by_cases Jy:k=i
     ·subst Jy
      rw [ho] at fD
      cases fD
      exact uC p hp
     ·have he:(bE.setIfInBounds i true)[k]? =bE[k]? :=Array.getElem?_setIfInBounds_ne (Ne.symm Jy)
      refine jo k ok fD ?_ p hp
      simpa only [Array.getD_eq_getD_getElem?,he] using hk
    ·rw [LH]
     rw [ht] at hf
     simp at hf ⊢
     omega
    ·rw [LH]
     have hni:i ∉ pre++post:=by
      intro hm
      have h2:=List.pairwise_append.1 hs
      rcases List.mem_append.1 hm with hm | hm
      ·exact Nat.lt_irrefl _ (h2.2.2 i hm i (by simp))
      ·exact Nat.lt_irrefl _ ((List.pairwise_cons.1 h2.2.1).1 i hm)
     exact rf.step F7 (fun k hk=>hFp k (by
      rcases List.mem_append.1 hk with hk | hk
      ·exact List.mem_append.2 (.inl hk)
      ·exact List.mem_append.2 (.inr (List.mem_cons.2 (.inr hk))))) hy hni h1
def Ex.to:Ex→Exit
 | .bC=> .normal
 | .ex id=> .exit id
 | .ret=> .ret
theorem ew {ac:AC} (h:ac.erase= .bad) :ac= .bad:=by cases ac<;>simp_all [AC.erase]
theorem tr {ac:AC} (h:ac.erase= .skip) :ac= .skip:=by cases ac<;>simp_all [AC.erase]
theorem vM {ac:AC} {l:List aN} (h:ac.erase= .ae l) :ac= .ae l:=by cases ac<;>simp_all [AC.erase]
theorem Bu {ac:AC} {l:List aN} {d:List (Nat×Nat)} (h:ac.erase= .bG l d) :ac= .bG l d:=by cases ac<;>simp_all [AC.erase]
theorem vN {ac a b:AC} (h:ac.erase= .seq a b) : ∃a' b',ac= .seq a' b'∧a'.erase=a∧b'.erase=b:=by
 cases ac<;>simp only [AC.erase,reduceCtorEq] at h
 injection h
 subst_vars
 exact ⟨_,_,rfl,rfl,rfl⟩
theorem tu {ac a b:AC} {c:AX} (h:ac.erase= .cond c a b) : ∃a' b',ac= .cond c a' b'∧a'.erase=a∧b'.erase=b:=by
 cases ac<;>simp only [AC.erase,reduceCtorEq] at h
 injection h
 subst_vars
 exact ⟨_,_,rfl,rfl,rfl⟩
theorem rj {ac b:AC} {id:Nat} (h:ac.erase= .block id b) : ∃b',ac= .block id b'∧b'.erase=b:=by cases ac<;>simp_all [AC.erase]
theorem Bv {ac b:AC} (h:ac.erase= .loop none b) : ∃o b',ac= .loop o b'∧b'.erase=b:=by
 cases ac<;>simp only [AC.erase,reduceCtorEq] at h
 injection h
 subst_vars
 exact ⟨_,_,rfl,rfl⟩
theorem tv {ac:AC} {id:Nat} (h:ac.erase= .exit none id) : ∃o,ac= .exit o id:=by cases ac<;>simp_all [AC.erase]
theorem vO {ac:AC} (h:ac.erase= .ret none) : ∃o,ac= .ret o:=by cases ac<;>simp_all [AC.erase]
theorem Inv.dU {ρ:Nat→Nat×Nat} {S:Nat→Nat→Prop} {st:St} {a:Act} {w:World} (hI:Inv w0 S0 N ρ S st a w) (h:Hint) :Inv w0 S0 N ρ S (st.dU h) a w:=by
 have aZ: ∀s o,(st.dU h).aT s=some o→st.aT s=some o:=fun s o ho=>by
  rcases st.Fy h s with h1 | h1
  ·rwa [h1] at ho
  ·rw [h1] at ho; cases ho
 have qk: ∀n t want v,(st.dU h).env n= .w t want v→st.env n= .w t want v:=fun n t want v hv=>by
  rcases st.ya h n with h1 | h1
  ·rwa [h1] at hv
  ·rw [h1] at hv; cases hv
 refine ⟨hI.size,hI.defers,fun t=> ?_,fun n t want v he=>hI.fV n t want v (qk n t want v he),fun n t want v he=>hI.kx n t want v (qk n t want v he),
  fun s o ho=>hI.aT s o (aZ s o ho),fun s s' o o' h1 h2=>hI.apart s s' o o' (aZ s o h1) (aZ s' o' h2),hI.live,hI.up,hI.new,hI.below,hI.small,hI.pins⟩
 rcases st.ya h t with h1 | h1
 ·rw [h1]; exact hI.env t
 ·rw [h1]; simp only [aE]
theorem cF.dU {st:St} {a:Act} {w:World} (hI:cF w0 S0 N st a w) (h:Hint) :cF w0 S0 N (st.dU h) a w:=by
 obtain ⟨ρ,S,hI⟩:=hI
 exact ⟨ρ,S,hI.dU h⟩
theorem tx (st:St) (t:Nat) : ∀n k,lk st t n k % 100000=(t+50000) % 100000
 | 0,k=>by simp only [lk]; omega
 | n+1,k=>by
  simp only [lk]
  split
  ·omega
  ·exact tx st t n (k+1)
theorem cF.rC: ∀(fs:List Nat) (st:St),cF w0 S0 N st a w→cF w0 S0 N (St.rC fs st) a w
 | [],st,h=>h
 | t::l,st,⟨ρ,S,h⟩=>by
  refine cF.rC l _ ?_
  split
  ·exact ⟨ρ,S,h⟩
  ·cases hb:Nat.beq ((t+50000) % 100000) 99999 with
   | true=>exact ⟨ρ,S,h⟩
   | false=>exact ⟨_,S,h.gp (uT st t 7 0) fun e=>by rw [tx] at e; rw [e] at hb; cases hb⟩
theorem cF.si {st:St} {a:Act} {w:World} (hI:cF w0 S0 N st a w) (h:Option Hint) :cF w0 S0 N (st.si h) a w:=by
 cases h with
 | none=>exact hI
 | some h=>exact hI.dU h
theorem di (aJ:dc P call) {run:uw} (bU:run.ok) {L:Nat} : ∀(c:Code) (ac:AC),bY P R N c=some ac.erase→ ∀(st st':St) (e:Ex),exec call run L ac st=some (e,st')→ ∀(a:Act) (w:World),cF w0 S0 N st a w→
  ∀(Q:Exit→Act→World→Prop),(∀a' w',cF w0 S0 N st' a' w'→Q e.to a' w')→c.wp P Q a w
 | .skip,ac,hc,st,st',e,h,a,w,hI,Q,hQ=>by
  simp only [bY,Option.some.injEq] at hc
  cases tr hc.symm
  simp only [exec,Option.some.injEq,Prod.mk.injEq] at h
  obtain ⟨rfl,rfl⟩:=h
  exact wp_skip (hQ a w hI)
 | .region id ops false,ac,hc,st,st',e,h,a,w,hI,Q,hQ=>by
  simp only [bY] at hc
  split at hc
  case h_2=>
   cases ew (Option.some.inj hc).symm
   simp [exec] at h
  rename_i l hm
  cases vM (Option.some.inj hc).symm
  simp only [exec,Option.map_eq_some_iff,Prod.mk.injEq] at h
  obtain ⟨dD,h1,rfl,rfl⟩:=h
  refine wp_region ?_
  rw [List.range_eq_range']
  exact qm aJ ops.size 0 l (by omega) (by simpa using hm) st dD a w hI h1 hQ
 | .region id ops true,ac,hc,st,st',e,h,a,w,hI,Q,hQ=>by
  simp only [bY] at hc
  split at hc
  ·rename_i l0 hm
   split at hc
   ·rename_i pV
    generalize hle:oD l0 (FN (ops.toList.map gx) []) l0.length 0 l0=l at hc pV
    simp only [Bool.and_eq_true] at pV
    simp only [Option.some.injEq] at hc
    cases Bu hc.symm
    simp only [exec] at h
    split at h
    ·rename_i dD R4
     split at h
     ·rename_i pf
      simp only [Option.some.injEq,Prod.mk.injEq] at h
      obtain ⟨rfl,rfl⟩:=h
      obtain ⟨ρ,S,CP⟩:=hI
      have CY:l.length=l0.length:=by rw [← hle,pe]
      have hlen:l.length=ops.size:=by rw [CY,(ju hm).1]; simp
      have LJ:todo ops.size (Array.replicate ops.size false)=List.range ops.size:=List.filter_eq_self.2 fun k hk=>by
       simp [Array.getD_eq_getD_getElem?,List.mem_range.1 hk]
      refine wp_region_any pV.1 (Bt aJ hm CY (fun i y hy=>zg l0 0 i y (by rw [hle]; exact hy)) pV.2.2 pV.2.1 pf hQ ops.size _ (St.k5 (kq l) st) a _ (by simp) (fun k ok fD hk=>by
       have :k < ops.size:=(Array.getElem?_eq_some_iff.1 fD).1
       simp [Array.getD_eq_getD_getElem?,this] at hk) (by rw [LJ]; simp) (fun k _ y hy hf d hd=>zl (by
        obtain ⟨d',ie,dZ,_⟩:=zh pV.2.2 hy hf
        rw [hd] at ie
        cases ie
        exact dZ) _ _ (.inr (tq (List.mem_of_getElem? hy) hf hd))) (cF.k5 _ _ ⟨ρ,S,CP.drew _⟩) ?_)
      rw [LJ,← hlen]
      rw [ri]
      exact R4
     ·cases h
    ·cases h
   ·cases ew (Option.some.inj hc).symm
    simp [exec] at h
  ·cases ew (Option.some.inj hc).symm
   simp [exec] at h
 | .seq x y,ac,hc,st,st',e,h,a,w,hI,Q,hQ=>by
  simp only [bY] at hc
  cases hx:bY P R N x with
  | none=>simp [hx] at hc
  | some ax=>
   cases hy:bY P R N y with
   | none=>simp [hx,hy] at hc
   | some ay=>
    simp only [hx,hy,Option.some.injEq] at hc
    obtain ⟨ax,ay,rfl,rfl,rfl⟩:=vN hc.symm
    simp only [exec] at h
    refine wp_seq ?_
    cases he:exec call run L ax st with
    | none=>simp [he] at h
    | some r=>
     obtain ⟨e1,dD⟩:=r
     refine di aJ bU x ax hx st dD e1 he a w hI _ fun a' w' e7=> ?_
     cases e1 with
     | bC=>
      simp only [he] at h
      exact di aJ bU y ay hy dD st' e h a' w' e7 Q hQ
     | ex id=>
      simp only [he,Option.some.injEq,Prod.mk.injEq] at h
      obtain ⟨rfl,rfl⟩:=h
      exact hQ a' w' e7
     | ret=>
      simp only [he,Option.some.injEq,Prod.mk.injEq] at h
      obtain ⟨rfl,rfl⟩:=h
      exact hQ a' w' e7
 | .cond c x y,ac,hc,st,st',e,h,a,w,hI,Q,hQ=>by
  simp only [bY] at hc
  split at hc
  ·rename_i axc ax ay h1 h2 h3
   simp only [Option.some.injEq] at hc
   obtain ⟨ax,ay,rfl,rfl,rfl⟩:=tu hc.symm
   simp only [exec] at h
   split at h
   ·rename_i t ht
    obtain ⟨ρ,S,CP⟩:=hI
    refine wp_cond (ky (bh CP h1) ht) ?_
    cases t with
    | true=>
     simp only [if_true] at h ⊢
     exact di aJ bU x ax h2 st st' e h a w ⟨ρ,S,CP⟩ Q hQ
    | false=>
     simp only [Bool.false_eq_true,if_false] at h ⊢
     exact di aJ bU y ay h3 st st' e h a w ⟨ρ,S,CP⟩ Q hQ
   ·cases h
  ·cases ew (Option.some.inj hc).symm
   simp [exec] at h
 | .block id b,ac,hc,st,st',e,h,a,w,hI,Q,hQ=>by
  simp only [bY,Option.map_eq_some_iff] at hc
  obtain ⟨ab,hb,hc⟩:=hc
  obtain ⟨ab,rfl,rfl⟩:=rj hc.symm
  simp only [exec] at h
  refine wp_block ?_
  cases he:exec call run L ab st with
  | none=>simp [he] at h
  | some r=>
   obtain ⟨e1,dD⟩:=r
   refine di aJ bU b ab hb st dD e1 he a w hI _ fun a' w' e7=> ?_
   cases e1 with
   | bC=>
    simp only [he,Option.some.injEq,Prod.mk.injEq] at h
    obtain ⟨rfl,rfl⟩:=h
    exact hQ a' w' e7
   | ex Lj=>
    simp only [he] at h
    simp only [Ex.to,Exit.inBlock]
    split at h
    ·rename_i JA
     simp only [Option.some.injEq,Prod.mk.injEq] at h
     obtain ⟨rfl,rfl⟩:=h
     rw [if_pos JA]
     exact hQ a' w' e7
    ·rename_i JA
     simp only [Option.some.injEq,Prod.mk.injEq] at h
     obtain ⟨rfl,rfl⟩:=h
     rw [if_neg JA]
     exact hQ a' w' e7
   | ret=>
    simp only [he,Option.some.injEq,Prod.mk.injEq] at h
    obtain ⟨rfl,rfl⟩:=h
    exact hQ a' w' e7
 | .loop b,ac,hc,st,st',e,h,a,w,hI,Q,hQ=>by
  simp only [bY,Option.map_eq_some_iff] at hc
  obtain ⟨ab,hb,hc⟩:=hc
  obtain ⟨o,ab,rfl,rfl⟩:=Bv hc.symm
  have key: ∀(f:St→Option (Ex×St)),(∀(st dD:St) (e1:Ex),f st=some (e1,dD)→ ∀(a:Act) (w:World),cF w0 S0 N st a w→
     ∀(Q:Exit→Act→World→Prop),(∀a' w',cF w0 S0 N dD a' w'→Q e1.to a' w')→b.wp P Q a w)→
    ∀(n:Nat) (st:St) (a:Act) (w:World),iter f n st=some (e,st')→cF w0 S0 N st a w→Code.rounds P b Q n a w:=by
   intro f hf n
   induction n with
   | zero=>intro st a w h; simp [iter] at h
   | succ n ih=>
    intro st a w h hI
    rw [rounds_succ]
    simp only [iter] at h
    cases he:f st with
    | none=>simp [he] at h
    | some r=>
     obtain ⟨e1,dD⟩:=r
     refine hf st dD e1 he a w hI _ fun a' w' e7=> ?_
     cases e1 with
     | bC=>
      simp only [he] at h
      exact ih dD a' w' h e7
     | ex id=>
      simp only [he,Option.some.injEq,Prod.mk.injEq] at h
      obtain ⟨rfl,rfl⟩:=h
      exact hQ a' w' e7
     | ret=>
      simp only [he,Option.some.injEq,Prod.mk.injEq] at h
      obtain ⟨rfl,rfl⟩:=h
      exact hQ a' w' e7
  cases o with
  | none=>
   simp only [exec] at h
   exact wp_loop_rounds L (key _ (fun st dD e1 he a w hI Q hQ=>di aJ bU b ab hb st dD e1 he a w hI Q hQ) L st a w h hI)
  | some hh=>
   simp only [exec] at h
   obtain ⟨n,hn⟩:=bU _ _ _ _ _ h
   refine wp_loop_rounds n (key _ (fun st dD e1 he a w hI Q hQ=> ?_) n _ a w hn ((cF.rC hh.fr _ hI).dU hh))
   simp only [kp] at he
   split at he
   ·rename_i st2 uI
    simp only [Option.some.injEq,Prod.mk.injEq] at he
    obtain ⟨rfl,rfl⟩:=he
    exact di aJ bU b ab hb st st2 _ uI a w hI Q fun a' w' e7=>hQ a' w' ((cF.rC hh.fr _ e7).dU hh)
   ·exact di aJ bU b ab hb st dD e1 he a w hI Q hQ
 | .exit id,ac,hc,st,st',e,h,a,w,hI,Q,hQ=>by
  simp only [bY,Option.some.injEq] at hc
  obtain ⟨o,rfl⟩:=tv hc.symm
  simp only [exec,Option.some.injEq,Prod.mk.injEq] at h
  obtain ⟨rfl,rfl⟩:=h
  exact wp_exit (hQ a w (hI.si o))
 | .ret,ac,hc,st,st',e,h,a,w,hI,Q,hQ=>by
  simp only [bY,Option.some.injEq] at hc
  obtain ⟨o,rfl⟩:=vO hc.symm
  simp only [exec,Option.some.injEq,Prod.mk.injEq] at h
  obtain ⟨rfl,rfl⟩:=h
  exact wp_ret (hQ a w (hI.si o))
 | .rangeFunc _ _ _ _,ac,hc,_,_,_,h,_,_,_,_,_=>by
  simp only [bY] at hc
  cases ew (Option.some.inj hc).symm
  simp [exec] at h
 | .scope _,ac,hc,_,_,_,h,_,_,_,_,_=>by
  simp only [bY] at hc
  cases ew (Option.some.inj hc).symm
  simp [exec] at h
 | .label _,ac,hc,_,_,_,h,_,_,_,_,_=>by
  simp only [bY] at hc
  cases ew (Option.some.inj hc).symm
  simp [exec] at h
 | .goto _,ac,hc,_,_,_,h,_,_,_,_,_=>by
  simp only [bY] at hc
  cases ew (Option.some.inj hc).symm
  simp [exec] at h
 | .refuse _,ac,hc,_,_,_,h,_,_,_,_,_=>by
  simp only [bY] at hc
  cases ew (Option.some.inj hc).symm
  simp [exec] at h
theorem EE {g:Bool} {sz:Nat} {x av:AV} {v:Value} (hx:aE w S ρ x v) (h:dJ st g sz x=some av) : ∃ad,v= .pointer (some ad):=by
 unfold dJ at h
 split at h
 ·simp only [aE,aW] at hx
  obtain ⟨b,o,rfl,_⟩:=hx
  exact ⟨_,rfl⟩
 ·simp only [aE] at hx
  exact ⟨_,hx⟩
 ·cases h
def tz (tmps:Array Value) :ResultVar→Sem Value
 | .tmp t=>pure (tmps.getD t undef)
 | .cell ad t=>do loadVar t (← asAddr (tmps.getD ad undef))
theorem qo (hI:Inv w0 S0 N ρ S st a w) : ∀(l:List ResultVar) (Bw:List RV) (avs:List AV),bm (oE P) l=some Bw→bm (RV.get st) Bw=some avs→
  ∃us:List Value,(l.mapM (tz a.tmps)).run P w= .ok us w∧aS w S ρ avs us
 | [],Bw,avs,h1,h2=>by
  simp only [bm,Option.some.injEq] at h1
  subst h1
  simp only [bm,Option.some.injEq] at h2
  subst h2
  exact ⟨[],by simp,by simp only [aS]⟩
 | r::l,Bw,avs,h1,h2=>by
  simp only [bm] at h1
  cases hr:oE P r with
  | none=>simp [hr] at h1
  | some rv=>
   cases hl:bm (oE P) l with
   | none=>simp [hr,hl] at h1
   | some R5=>
    simp only [hr,hl,Option.some.injEq] at h1
    subst h1
    simp only [bm] at h2
    cases hg:RV.get st rv with
    | none=>simp [hg] at h2
    | some av=>
     cases hgs:bm (RV.get st) R5 with
     | none=>simp [hg,hgs] at h2
     | some acg=>
      simp only [hg,hgs,Option.some.injEq] at h2
      subst h2
      obtain ⟨us,gP,nJ⟩:=qo hI l R5 acg hl hgs
      cases r with
      | tmp t=>
       simp only [oE,Option.some.injEq] at hr
       subst hr
       simp only [RV.get,Option.some.injEq] at hg
       subst hg
       refine ⟨a.tmps.getD t undef::us,?_,by simp only [aS]; exact ⟨_,_,rfl,(hI.env t).strip,nJ⟩⟩
       rw [List.mapM_cons]
       simp only [tz,Sem.run_bind,Sem.run_pure,Result.andThen_ok,gP]
      | cell ad t=>
       simp only [oE] at hr
       split at hr
       ·rename_i g sz Qw iq
        simp only [Option.some.injEq] at hr
        subst hr
        simp only [RV.get] at hg
        obtain ⟨u,hu,I6⟩:=sJ hI Qw iq (hI.env ad) hg
        obtain ⟨p,hp⟩:=EE (hI.env ad) hg
        rw [hp] at hu
        simp only [Instr.loadAt,Instr.sureAddr,Sem.run_bind,Sem.run_pure,Result.andThen_ok] at hu
        refine ⟨u::us,?_,by simp only [aS]; exact ⟨_,_,rfl,I6,nJ⟩⟩
        rw [List.mapM_cons]
        simp only [tz,hp,asAddr,Sem.run_bind,Sem.run_pure,Result.andThen_ok,hu,gP]
       ·cases hr
theorem kS {w:World} {S:Nat→Nat→Prop} {x:DV} {u:Value} (h:aW w S x u) (t:Nat) :ss t x= .d x∧yf x=none:=by
 cases x<;>first
  | exact ⟨rfl,rfl⟩
  | (simp only [aW] at h)
theorem JB {t:Nat} {x:DV} {t':Nat} {want:Bool} {v:AV} (h:ss t x= .w t' want v) :False:=by
 cases x<;>simp [ss] at h
theorem zm {w:World} {o:dw} {ds:aw} {vs:List Value} (h:iZ w S0 ds vs o) (hS: ∀b p,S0 b p→b < w.heap.size) {n:Nat} (hn:ds.length≤n) (Gp:n≤49997) :
  ∃ρ,Inv o S0 n ρ S0 (St.init ds) {tmps:=vs.toArray++Array.replicate (n - vs.toArray.size) undef,defers:=[]} w:=by
 have key: ∃ρ,o.w=w∧(∀n,n % 100000=99999→ρ n=o.CI n)∧vs.length=ds.length∧(∀t x,ds[t]? =some x→ ∃u,vs[t]? =some u∧aE w S0 ρ (ss t x) u)∧(∀s x o',ds[s]? =some x→yf x=some o'→s=0∧bO o.gz w S0 ρ s o'):=by
  have data: ∀ρ,cg w S0 ds vs→(∀t x,ds[t]? =some x→ ∃u,vs[t]? =some u∧aE w S0 ρ (ss t x) u)∧(∀s x o',ds[s]? =some x→yf x=some o'→s=0∧bO o.gz w S0 ρ s o'):=fun ρ h=>by
   refine ⟨fun t x hx=> ?_,fun s x o' hx ho=> ?_⟩
   ·obtain ⟨u,hu,hr⟩:=cg.at _ _ h t x hx
    exact ⟨u,hu,by rw [(kS hr t).1]; simpa only [aE] using hr⟩
   ·obtain ⟨u,hu,hr⟩:=cg.at _ _ h s x hx
    rw [(kS hr s).2] at ho
    cases ho
  unfold iZ at h
  split at h
  ·rename_i el sz es Bc
   obtain ⟨v,eo,g,rfl,⟨cap,rfl,bj,cR⟩,hl,rfl⟩:=h
   refine ⟨fun s=>if s=0 then (g,cap) else (0,0),rfl,fun n hn=>by show (if n=0 then (g,cap) else (0,0))=_; rw [if_neg (by omega)]; rfl,by simp [cg.length _ _ hl],fun t x hx=> ?_,fun s x o' hx ho=> ?_⟩
   ·cases t with
    | zero=>
     simp only [List.getElem?_cons_zero,Option.some.injEq] at hx
     subst hx
     refine ⟨_,rfl,?_⟩
     simp only [ss,aE,if_true]
     exact ⟨_,_,rfl,fun _=>by simp,fun _=>rfl,cR.fits,rfl⟩
    | succ t=>
     simp only [List.getElem?_cons_succ] at hx ⊢
     obtain ⟨u,hu,hr⟩:=cg.at _ _ hl t x hx
     exact ⟨u,hu,by rw [(kS hr _).1]; simpa only [aE] using hr⟩
   ·cases s with
    | zero=>
     simp only [List.getElem?_cons_zero,Option.some.injEq] at hx
     subst hx
     simp only [yf,Option.some.injEq] at ho
     subst ho
     exact ⟨rfl,bj,by simpa using ⟨fun h=>h.2 rfl,cR.here,cR.fits,cR.len,cR.apart⟩⟩
    | succ s=>
     simp only [List.getElem?_cons_succ] at hx
     obtain ⟨u,hu,hr⟩:=cg.at _ _ hl s x hx
     rw [(kS hr s).2] at ho
     cases ho
  ·obtain ⟨h,rfl⟩:=h
   exact ⟨fun _=>(0,0),rfl,fun _ _=>rfl,cg.length _ _ h,data _ h⟩
 obtain ⟨ρ,how,JC,hl,hv,hs⟩:=key
 have hw: ∀m t' want x,(St.init ds).env m= .w t' want x→False:=by
  intro m t' want x he
  simp only [St.init] at he
  split at he
  ·exact JB he
  ·cases he
 refine ⟨ρ,by simp; omega,rfl,fun t=> ?_,fun m t want v he _=>(hw _ _ _ _ he).elim,fun m t want v he _=>(hw _ _ _ _ he).elim,fun s o' h=> ?_,fun s s' o1 o2 h h' _=> ?_,hS,fun _ _ h=>h,fun _ _ h=> .inl h,how ▸ bJ.refl _ _,Gp,JC⟩
 ·simp only [St.init]
  cases hd:ds[t]? with
  | none=>simp only [aE]
  | some x=>
   obtain ⟨u,hu,hr⟩:=hv t x hd
   have ht:t < vs.length:=(List.getElem?_eq_some_iff.1 hu).1
   have :(vs.toArray++Array.replicate (n - vs.toArray.size) undef)[t]? =some u:=by
    rw [Array.getElem?_append_left (by simpa using ht)]
    simpa using hu
   rw [Array.getD_eq_getD_getElem?,this]
   exact hr
 ·simp only [St.init] at h
  split at h
  ·rename_i x hx
   exact (hs s x o' hx h).2
  ·cases h
 ·simp only [St.init] at h h'
  split at h
  ·rename_i x hx
   split at h'
   ·rename_i x' uK
    rw [(hs s x o1 hx h).1,(hs s' x' o2 uK h').1]
   ·cases h'
  ·cases h
theorem gV (hI:Inv w0 S0 N ρ S st a w) {fn:Func} {Bw:List RV} (hr:bm (oE P) fn.results.toList=some Bw) {r:DV} (h:jN st Bw=some r) :
  ∃v S',(results fn a.tmps).run P w= .ok v w∧iC w0 S0 r v w S':=by
 unfold jN at h
 have fin: ∀(avs:List AV) (v:AV),bm (RV.get st) Bw=some avs→(avs=[v]∨(avs.length≠1∧v= .tuple avs))→nw st v=some r→ ∃u S',(results fn a.tmps).run P w= .ok u w∧iC w0 S0 r u w S':=by
  intro avs v hg hv ht
  obtain ⟨us,gP,nJ⟩:=qo hI _ _ _ hr hg
  have bU:(fn.results.mapM (tz a.tmps)).run P w= .ok us.toArray w:=by
   rw [Array.mapM_eq_mapM_toList]
   simp only [Sem.run_map,gP,Result.andThen_ok]
  have hlen:=aS.length _ _ nJ
  have ja: ∀u,(if h:us.toArray.size=1 then us.toArray[0] else Value.tuple us.toArray)=u→(results fn a.tmps).run P w= .ok u w:=by
   intro u hu
   show (do let vs ← fn.results.mapM (tz a.tmps); pure (if h:vs.size=1 then vs[0] else .tuple vs) :Sem Value).run P w= .ok u w
   rw [Sem.run_bind,bU]
   simp only [Result.andThen_ok,Sem.run_pure]
   rw [hu]
  rcases hv with rfl | ⟨cu,rfl⟩
  ·simp only [aS] at nJ
   obtain ⟨u,oj,rfl,hu,rfl⟩:=nJ
   obtain ⟨S',hp⟩:=vL hI hu ht
   exact ⟨u,S',ja u (by simp),hp⟩
  ·obtain ⟨S',hp⟩:=vL hI (u:= .tuple us.toArray) (by simp only [aE]; exact ⟨us,rfl,nJ⟩) ht
   exact ⟨_,S',ja _ (by rw [dif_neg (by simp; omega)]),hp⟩
 split at h
 ·rename_i v hg
  exact fin _ v hg (.inl rfl) h
 ·rename_i vs cu hg
  refine fin vs _ hg (.inr ⟨fun hl=> ?_,rfl⟩) h
  match vs,hl with
  | [v],_=>exact cu v rfl
 ·cases h
end
theorem CZ {P:Program} {call:FuncId→aw→aH} (aJ:dc P call) {run:uw} (bU:run.ok) {L:Nat} {fn:Func} {f:FuncId} {jg:bb} (hU:P.funcs[f]? =some fn) (j9:D3 P fn=some jg.erase)
  {ds:aw} {r:DV} (hlen:ds.length≤jg.ntmps) (h:(match exec call run L jg.body (St.init ds) with
    | some (.bC,st)=>jN st jg.res
    | some (.ret,st)=>jN st jg.res
    | _=>none)=some r) :
  Ft P f ds r:=by
 unfold D3 at j9
 cases hb:fn.body with
 | none=>simp [hb] at j9
 | some c=>
  simp only [hb] at j9
  split at j9
  ·cases j9
  ·rename_i gC
   split at j9
   ·cases j9
   rename_i Nl
   split at j9
   ·cases j9
   split at j9
   ·rename_i b rs GV ja
    simp only [Option.some.injEq,bb.erase] at j9
    injection j9 with h1 h2 h3
    subst h1
    refine ⟨⟨fn,hU,by simpa using gC,by simp [hb]⟩,fun w vs S0 o hl hS=> ?_⟩
    rw [← h2] at hlen
    rw [← h3] at h
    obtain ⟨ρ0,zn⟩:=zm hl hS hlen (by omega)
    refine calls_of_wp hU hb ?_
    have fin: ∀(e:Ex) (st:St),exec call run L jg.body (St.init ds)=some (e,st)→jN st rs=some r→(e= .bC∨e= .ret)→
      c.wp P (bodyPost P fn fun e w'=> ∃v S',e= .returned v∧iC o S0 r v w' S') {tmps:=vs.toArray++Array.replicate (fn.ntmps - vs.toArray.size) undef,defers:=[]} w:=by
     intro e st he hr Rx
     refine di aJ bU c jg.body GV _ st e he _ w ⟨_,_,zn⟩ _ fun a' w' e7=> ?_
     obtain ⟨ρ,S,hI⟩:=e7
     obtain ⟨v,S',h1,h2⟩:=gV hI ja hr
     rcases Rx with rfl | rfl
     ·exact ⟨hI.defers,v,h1,v,S',rfl,h2⟩
     ·exact ⟨hI.defers,v,h1,v,S',rfl,h2⟩
    split at h
    ·rename_i st he
     exact fin _ st he h (.inl rfl)
    ·rename_i st he
     exact fin _ st he h (.inr rfl)
    ·cases h
   ·cases j9
theorem zo: ∀{l m:List Nat},ow l m=true→l=m
 | [],[],_=>rfl
 | [],_::_,h=>by simp [ow] at h
 | _::_,[],h=>by simp [ow] at h
 | a::l,b::m,h=>by
  simp only [ow,Bool.and_eq_true] at h
  rw [Nat.eq_of_beq_eq_true h.1,zo h.2]
theorem GW (j:Nat) :gM j % 100000=99999:=by unfold gM; omega
def jz (loc:Nat→Nat×Nat) (n:Nat) :Nat×Nat:=loc (n / 100000)
theorem iG (loc:Nat→Nat×Nat) (j:Nat) :jz loc (gM j)=loc j:=by
 unfold jz gM
 congr 1
 omega
def tA (w:World) (n:Nat) (loc:Nat→Nat×Nat) :dw:=⟨w,kF w n loc,fun _ h=>h.1,jz loc⟩
theorem kT: ∀(os:aw) (k n:Nat) (o:Ob),gq (kj k os) n=some o→ ∃j y,os[j]? =some y∧n=gM (k+j)∧y.ll gM=some o
 | [],k,n,o,h=>by simp [kj,gq] at h
 | x::os,k,n,o,h=>by
  simp only [kj,gq] at h
  cases hb:Nat.beq n (gM k) with
  | true=>
   simp only [hb,cond_true] at h
   exact ⟨0,x,rfl,Nat.eq_of_beq_eq_true hb,h⟩
  | false=>
   simp only [hb,cond_false] at h
   obtain ⟨j,y,h1,h2,h3⟩:=kT os (k+1) n o h
   exact ⟨j+1,y,by simpa using h1,by rw [h2]; congr 1; omega,h3⟩
theorem C0 {τ:Nat→Nat} : ∀(l:aw) (i:Nat) (x:DV),l[i]? =some x→(jK τ l)[i]? =some (x.dec τ)
 | [],i,x,h=>by simp at h
 | y::l,0,x,h=>by
  simp only [List.getElem?_cons_zero,Option.some.injEq] at h
  subst h
  rfl
 | y::l,i+1,x,h=>by
  simp only [jK,List.getElem?_cons_succ] at h ⊢
  exact C0 l i x h
theorem mg: ∀(vs:aw) (k n:Nat),(∃j x,vs[j]? =some x∧n=k+j∧gJ (gr k vs) n=x.dec gM)∨gJ (gr k vs) n= .undef
 | [],k,n=> .inr rfl
 | x::vs,k,n=>by
  simp only [gr,gJ]
  cases hb:Nat.beq n k with
  | true=>exact .inl ⟨0,x,rfl,Nat.eq_of_beq_eq_true hb,rfl⟩
  | false=>
   simp only [cond_false]
   rcases mg vs (k+1) n with ⟨j,y,h1,h2,h3⟩ | h
   ·exact .inl ⟨j+1,y,by simpa using h1,by omega,h3⟩
   ·exact .inr h
theorem EF {w:World} {S0:Nat→Nat→Prop} {xs os:aw} {vs:List Value} {loc:Nat→Nat×Nat} (h:Bf w S0 xs os vs loc) (hS: ∀b p,S0 b p→b < w.heap.size) {n:Nat} (hn:xs.length≤n) (Gp:n≤49997) :
  Inv (tA w os.length loc) S0 n (jz loc) S0 (St.oz xs os) {tmps:=vs.toArray++Array.replicate (n - vs.toArray.size) undef,defers:=[]} w:=by
 have Qw: ∀j,j < os.length→jz loc (gM j)=loc j:=fun j _=>iG loc j
 have LK:=h.abT gM (jz loc) Qw
 have hl:vs.length=xs.length:=by
  have :=aS.length _ _ LK
  rwa [o3] at this
 have hw: ∀m t' want x,(St.oz xs os).env m= .w t' want x→False:=by
  intro m t' want x he
  have bF:gJ (gr 0 xs) m= .w t' want x:=he
  rcases mg xs 0 m with ⟨j,y,_,_,h3⟩ | h3
  ·rw [h3] at bF
   exact CN bF
  ·rw [h3] at bF
   cases bF
 refine ⟨by simp; omega,rfl,fun t=> ?_,fun m t want v he _=>(hw _ _ _ _ he).elim,fun m t want v he _=>(hw _ _ _ _ he).elim,fun s o hs=> ?_,fun s s' o1 o2 h1 h2 he=> ?_,hS,fun _ _ h=>h,fun _ _ h=> .inl h,bJ.refl _ _,Gp,fun _ _=>rfl⟩
 ·show aE w S0 (jz loc) (gJ (gr 0 xs) t) _
  rcases mg xs 0 t with ⟨j,x,hd,hj,h3⟩ | h3
  ·rw [Nat.zero_add] at hj
   subst hj
   rw [h3]
   obtain ⟨u,hu,hr⟩:=aS.at _ _ LK t _ (C0 xs t x hd)
   have ht:t < vs.length:=(List.getElem?_eq_some_iff.1 hu).1
   have :(vs.toArray++Array.replicate (n - vs.toArray.size) undef)[t]? =some u:=by
    rw [Array.getElem?_append_left (by simpa using ht)]
    simpa using hu
   rw [Array.getD_eq_getD_getElem?,this]
   exact hr
  ·rw [h3]
   simp only [aE]
 ·obtain ⟨j,y,h1,rfl,h3⟩:=kT os 0 s o hs
  rw [Nat.zero_add]
  refine (h.uF gM (jz loc) Qw j y o h1 h3).Na fun ho=>ho.2 j (List.getElem?_eq_some_iff.1 h1).1 ?_
  rw [iG]
 ·obtain ⟨i,y,g1,rfl,g3⟩:=kT os 0 s o1 h1
  obtain ⟨j,z,k1,rfl,k3⟩:=kT os 0 s' o2 h2
  simp only [Nat.zero_add,iG] at he ⊢
  rw [h.apart i j (List.getElem?_eq_some_iff.1 g1).1 (List.getElem?_eq_some_iff.1 k1).1 he]
theorem tB {P:Program} {w0 w:World} {S0:Nat→Nat→Prop} {n N:Nat} {loc:Nat→Nat×Nat} {ρ:Nat→Nat×Nat} {S:Nat→Nat→Prop} {st:St} {a:Act} (hI:Inv (tA w0 n loc) S0 N ρ S st a w) {v:AV} {u:Value} (hu:aE w S ρ v u) {r:DV} (h:Av st n v=some r) :
  ∃x os fq,r= .gi [x] os∧kG w0 S0 n loc x os u w S fq:=by
 unfold Av at h
 simp only at h
 generalize reach st 60 _ _=R at h
 split at h
 ·rename_i x os hx hos
  cases hc:nodup R&&ow (R.take n) ((List.range n).map gM) with
  | false=>simp [hc] at h
  | true=>
   simp only [hc,cond_true,Option.some.injEq] at h
   simp only [Bool.and_eq_true] at hc
   have nj:=(nodup_iff _).1 hc.1
   have hR0:=zo hc.2
   obtain ⟨QK,QL⟩:=vq hos
   have conv: ∀(τ:Nat→Nat) (ρ':Nat→Nat×Nat),(∀j,j < os.length→ρ' (τ j)=ρ (R.getD j 0))→ ∀j s,R[j]? =some s→ρ' (τ j)=ρ s:=fun τ ρ' h j s hj=>by
    rw [h j (by rw [QK]; exact (List.getElem?_eq_some_iff.1 hj).1),List.getD_eq_getElem?_getD,hj,Option.getD_some]
   refine ⟨x,os,fun j=>ρ (R.getD j 0),h.symm,hI.below,hI.up,hI.new,hI.live,fun j hj=> ?_,fun τ ρ' h=>CM (conv τ ρ' h) v x u hx hu,fun τ ρ' h j y o hy hdo=> ?_,fun i j y z hy hz uD Fq he=> ?_⟩
   ·have h1:R[j]? =some (gM j):=by
     have :(R.take n)[j]? =some (gM j):=by rw [hR0]; simp [hj]
     rwa [List.getElem?_take,if_pos hj] at this
    show ρ (R.getD j 0)=loc j
    rw [List.getD_eq_getElem?_getD,h1,Option.getD_some,hI.pins _ (GW j)]
    exact iG loc j
   ·obtain ⟨s,h1,h2⟩:=QL j y hy
    rcases h2 with ⟨_,rfl⟩ | ⟨o1,h2,h3⟩
    ·simp [DV.ll] at hdo
    ·exact Gl (conv τ ρ' h) (conv τ ρ' h j s h1) (hI.aT s o1 h2) h3 hdo
   ·obtain ⟨s,h1,h2⟩:=QL i y hy
    obtain ⟨s',k1,k2⟩:=QL j z hz
    rcases h2 with ⟨_,rfl⟩ | ⟨o1,h2,h3⟩
    ·simp [DV.Gi] at uD
    ·rcases k2 with ⟨_,rfl⟩ | ⟨o2,k2,k3⟩
     ·simp [DV.Gi] at Fq
     ·have bF:(ρ (R.getD i 0)).1=(ρ (R.getD j 0)).1:=he
      rw [List.getD_eq_getElem?_getD,h1,Option.getD_some,List.getD_eq_getElem?_getD,k1,Option.getD_some] at bF
      have hss:=hI.apart s s' o1 o2 h2 k2 bF
      have h4:=jV nj h1
      have h5:=jV nj k1
      rw [hss] at h4
      exact Option.some.inj (h4.symm.trans h5)
 ·cases h
theorem Bx {P:Program} {w0 w:World} {S0:Nat→Nat→Prop} {n N:Nat} {loc:Nat→Nat×Nat} {ρ:Nat→Nat×Nat} {S:Nat→Nat→Prop} {st:St} {a:Act} (hI:Inv (tA w0 n loc) S0 N ρ S st a w) {fn:Func} {Bw:List RV} (hr:bm (oE P) fn.results.toList=some Bw) {r:DV} (h:sr st n Bw=some r) :
  ∃v x os fq,(results fn a.tmps).run P w= .ok v w∧r= .gi [x] os∧kG w0 S0 n loc x os v w S fq:=by
 unfold sr at h
 have fin: ∀(avs:List AV) (v:AV),bm (RV.get st) Bw=some avs→(avs=[v]∨(avs.length≠1∧v= .tuple avs))→Av st n v=some r→ ∃v x os fq,(results fn a.tmps).run P w= .ok v w∧r= .gi [x] os∧kG w0 S0 n loc x os v w S fq:=by
  intro avs v hg hv ht
  obtain ⟨us,gP,nJ⟩:=qo hI _ _ _ hr hg
  have bU:(fn.results.mapM (tz a.tmps)).run P w= .ok us.toArray w:=by
   rw [Array.mapM_eq_mapM_toList]
   simp only [Sem.run_map,gP,Result.andThen_ok]
  have hlen:=aS.length _ _ nJ
  have ja: ∀u,(if h:us.toArray.size=1 then us.toArray[0] else Value.tuple us.toArray)=u→(results fn a.tmps).run P w= .ok u w:=by
   intro u hu
   show (do let vs ← fn.results.mapM (tz a.tmps); pure (if h:vs.size=1 then vs[0] else .tuple vs) :Sem Value).run P w= .ok u w
   rw [Sem.run_bind,bU]
   simp only [Result.andThen_ok,Sem.run_pure]
   rw [hu]
  rcases hv with rfl | ⟨cu,rfl⟩
  ·simp only [aS] at nJ
   obtain ⟨u,oj,rfl,hu,rfl⟩:=nJ
   obtain ⟨x,os,fq,h1,h2⟩:=tB (P:=P) hI hu ht
   exact ⟨u,x,os,fq,ja u (by simp),h1,h2⟩
  ·obtain ⟨x,os,fq,h1,h2⟩:=tB (P:=P) hI (u:= .tuple us.toArray) (by simp only [aE]; exact ⟨us,rfl,nJ⟩) ht
   exact ⟨_,x,os,fq,ja _ (by rw [dif_neg (by simp; omega)]),h1,h2⟩
 split at h
 ·rename_i v hg
  exact fin _ v hg (.inl rfl) h
 ·rename_i vs cu hg
  refine fin vs _ hg (.inr ⟨fun hl=> ?_,rfl⟩) h
  match vs,hl with
  | [v],_=>exact cu v rfl
 ·cases h
theorem C1 {P:Program} {call:FuncId→aw→aH} (aJ:dc P call) {run:uw} (bU:run.ok) {L:Nat} {fn:Func} {f:FuncId} {jg:bb} (hU:P.funcs[f]? =some fn) (j9:D3 P fn=some jg.erase)
  {vs os:aw} {x:DV} {x5:aw} (hlen:vs.length≤jg.ntmps) (h:(match exec call run L jg.body (St.oz vs os) with
    | some (.bC,st)=>sr st os.length jg.res
    | some (.ret,st)=>sr st os.length jg.res
    | _=>none)=some (.gi [x] x5)) :
  Lv P f vs os x x5:=by
 unfold D3 at j9
 cases hb:fn.body with
 | none=>simp [hb] at j9
 | some c=>
  simp only [hb] at j9
  split at j9
  ·cases j9
  ·rename_i gC
   split at j9
   ·cases j9
   rename_i Nl
   split at j9
   ·cases j9
   split at j9
   ·rename_i b rs GV ja
    simp only [Option.some.injEq,bb.erase] at j9
    injection j9 with h1 h2 h3
    subst h1
    intro w us S0 loc Aq hS
    refine .inl ⟨⟨fn,hU,by simpa using gC,by simp [hb]⟩,?_⟩
    rw [← h2] at hlen
    rw [← h3] at h
    have zn:=EF Aq hS hlen (by omega)
    refine calls_of_wp hU hb ?_
    have fin: ∀(e:Ex) (st:St),exec call run L jg.body (St.oz vs os)=some (e,st)→sr st os.length rs=some (.gi [x] x5)→(e= .bC∨e= .ret)→
      c.wp P (bodyPost P fn fun e w'=> ∃v,e= .returned v∧ ∃S' fq,kG w S0 os.length loc x x5 v w' S' fq) {tmps:=us.toArray++Array.replicate (fn.ntmps - us.toArray.size) undef,defers:=[]} w:=by
     intro e st he hr Rx
     refine di aJ bU c jg.body GV _ st e he _ w ⟨_,_,zn⟩ _ fun a' w' e7=> ?_
     obtain ⟨ρ,S,hI⟩:=e7
     obtain ⟨v,x',os2,fq,h1,h2,h3⟩:=Bx hI ja hr
     cases h2
     rcases Rx with rfl | rfl
     ·exact ⟨hI.defers,v,h1,v,rfl,S,fq,h3⟩
     ·exact ⟨hI.defers,v,h1,v,rfl,S,fq,h3⟩
    split at h
    ·rename_i st he
     exact fin _ st he h (.inl rfl)
    ·rename_i st he
     exact fin _ st he h (.inr rfl)
    ·cases h
   ·cases j9
theorem tC (vs os:aw) :fQ (pad (.gi vs os))=some (vs,os):=rfl
theorem xl {w:World} {S0:Nat→Nat→Prop} {ds:aw} {us:List Value} {o:dw} {p:aw×aw} (hf:fQ ds=some p) (h:iZ w S0 ds us o) :False:=by
 unfold fQ at hf
 have mY: ∃vs os,.gi vs os∈ds.drop 12∧ds≠[]∧12 < ds.length:=by
  split at hf
  ·rename_i vs os hd
   refine ⟨vs,os,by rw [hd]; simp,fun e=>by simp [e] at hd,?_⟩
   have :(ds.drop 12).length=1:=by rw [hd]; rfl
   simp only [List.length_drop] at this
   omega
  ·cases hf
 obtain ⟨vs,os,hm,cu,hlen⟩:=mY
 have no: ∀(l:aw) (us:List Value),cg w S0 l us→ .gi vs os∈l→False:=by
  intro l
  induction l with
  | nil=>intro us _ h; cases h
  | cons x l ih=>
   intro us h hm
   simp only [cg] at h
   obtain ⟨u,oj,rfl,h1,h2⟩:=h
   rcases List.mem_cons.1 hm with h | h
   ·rw [← h] at h1
    simp only [aW] at h1
   ·exact ih oj h2 h
 unfold iZ at h
 split at h
 ·rename_i el sz es Bc
  obtain ⟨v,eo,g,rfl,_,hl,_⟩:=h
  refine no Bc eo hl ?_
  have :(DV.mv el sz es::Bc).drop 12=Bc.drop 11:=rfl
  rw [this] at hm
  exact List.mem_of_mem_drop hm
 ·exact no _ _ h.1 (List.mem_of_mem_drop hm)
theorem Nm {P:Program} {fn:Func} {g:bb} (h:D3 P fn=some g) :(fn.name== "runtime.NumGoroutine")=false∧fn.body.isNone=false:=by
 unfold D3 at h
 cases hb:fn.body with
 | none=>simp [hb] at h
 | some c=>
  simp only [hb] at h
  split at h
  ·cases h
  ·rename_i gC
   exact ⟨by simpa using gC,rfl⟩
end Go.Proofs.YtglbgfcegifeeaaGreat.Vm
namespace Go.Proofs.YtglbgfcegifeeaaGreat.Vm
open Go Go.RowKit Go.ChangeShapes Go.WideShapes Go.ChangeAt
inductive Kd where
 | int (k:IntKind)
 | bool
 | slice (e:Kd)
 | struct (fs:List Kd)
mutual
def Kd.size:Kd→Nat
 | .int _=>1
 | .bool=>1
 | .slice _=>1
 | .struct fs=>nn fs
def nn:List Kd→Nat
 | []=>0
 | K::l=>K.size+nn l
end
mutual
def KC:Kd→aw→Prop
 | .int k,xs=> ∃n,xs=[.int k n]∧(Lit.int k n).wf=true
 | .bool,xs=> ∃b,xs=[.bool b]
 | .slice e,xs=> ∃es,xs=[.ag false e.size es]∧ ∀x∈es,KC e x
 | .struct fs,xs=>EG fs xs
def EG:List Kd→aw→Prop
 | [],xs=>xs=[]
 | K::l,xs=> ∃a b,xs=a++b∧KC K a∧EG l b
end
def KV (K:Kd) (x:DV) :Prop:=
 match K with
 | .struct fs=> ∃xs,x= .agg xs∧EG fs xs
 | K=>KC K [x]
def LL:List Kd→aw→Prop
 | [],xs=>xs=[]
 | K::l,xs=> ∃x xs',xs=x::xs'∧KV K x∧LL l xs'
def qp (P:Program) (g:TypeId→Option Kd) :Nat→List Field→Option (List Kd)
 | _,[]=>some []
 | off,f::fs=>
  match g f.type with
  | some K=>if f.offset=off∧P.cellsOf f.type=K.size then (qp P g (off+K.size) fs).map (K:: ·) else none
  | none=>none
def fF (P:Program) :Nat→TypeId→Option Kd
 | 0,_=>none
 | n+1,t=>
  match P.underlying t with
  | some .bool=>some .bool
  | some (.int k)=>some (.int k)
  | some (.slice e)=>
   match fF P n e with
   | some K=>if P.cellsOf e=K.size∧0 < K.size then some (.slice K) else none
   | none=>none
  | some (.struct fs)=>
   match qp P (fF P n) 0 fs.toList with
   | some Ks=>if P.cellsOf t=nn Ks then some (.struct Ks) else none
   | none=>none
  | _=>none
mutual
theorem KC.length: ∀(K:Kd) (xs:aw),KC K xs→xs.length=K.size
 | .int k,xs,h=>by simp only [KC] at h; obtain ⟨n,rfl,_⟩:=h; simp [Kd.size]
 | .bool,xs,h=>by simp only [KC] at h; obtain ⟨b,rfl⟩:=h; simp [Kd.size]
 | .slice e,xs,h=>by
  simp only [KC] at h
  obtain ⟨es,rfl,_⟩:=h; simp [Kd.size]
 | .struct fs,xs,h=>by simp only [KC] at h; simp only [Kd.size]; exact EG.length fs xs h
theorem EG.length: ∀(l:List Kd) (xs:aw),EG l xs→xs.length=nn l
 | [],xs,h=>by simp only [EG] at h; subst h; simp [nn]
 | K::l,xs,h=>by
  simp only [EG] at h
  obtain ⟨a,b,rfl,h1,h2⟩:=h
  simp [nn,KC.length K a h1,EG.length l b h2]
end
section
variable {P:Program} {H:Type} {enc:TypeId×Value→H} {w:World}
theorem cg.append {S:Nat→Nat→Prop} : ∀(l m:aw) (us vs:List Value),cg w S l us→cg w S m vs→cg w S (l++m) (us++vs):=xb.kM
theorem cW {base:Nat} {a:Addr} {n:Nat} {l:List Value} (h:w.cells? base a n=some l) :l.length=n∧ ∀j,j < n→ ∃u,l[j]? =some u∧w.cell? (a.add j)=some u:=by
 unfold World.cells? at h
 split at h
 ·obtain ⟨h1,h2⟩:=jU h
  have hl:l.length=n:=by simpa using h1
  refine ⟨hl,fun j hj=> ?_⟩
  have M':j < l.length:=by omega
  exact ⟨l[j],List.getElem?_eq_getElem M',h2 j j _ (by simp [hj]) (List.getElem?_eq_getElem M')⟩
 ·cases h
theorem qq {sp:Nat→Bool} {held:Bool} : ∀(n:Nat) (t:TypeId) (K:Kd),fF P n t=some K→ ∀(fuel:Nat) (cs:List Value) (r:DataW H×List MemPlace),
  DataW.trod enc P w 0 sp held fuel t cs=some r→ ∃xs,KC K xs∧cg w (fun b _=>b < w.heap.size) xs cs
 | 0,t,K,hk,_,_,_,_=>by simp [fF] at hk
 | n+1,t,K,hk,fuel,cs,r,h=>by
  cases fuel with
  | zero=>simp [DataW.trod] at h
  | succ fuel=>
   simp only [fF] at hk
   cases hu:P.underlying t with
   | none=>simp [hu] at hk
   | some d=>
    rw [hu] at hk
    cases d<;>simp only [reduceCtorEq] at hk
    case bool=>
     simp only [Option.some.injEq] at hk
     subst hk
     simp only [DataW.trod,hu] at h
     split at h<;>try (simp_all; done)
     rename_i b A5
     exact ⟨[.bool b],by simp only [KC]; exact ⟨b,rfl⟩,by simp only [cg,aW]; exact ⟨_,[],rfl,rfl,rfl⟩⟩
    case int k=>
     simp only [Option.some.injEq] at hk
     subst hk
     simp only [DataW.trod,hu] at h
     split at h<;>try (simp_all; done)
     rename_i k1 k2 m heq
     simp only [Option.some.injEq,TypeDesc.int.injEq] at heq
     subst heq
     split at h
     ·rename_i hc
      obtain ⟨rfl,hwf⟩:=hc
      exact ⟨[.int _ m],by simp only [KC]; exact ⟨m,rfl,hwf⟩,by simp only [cg,aW]; exact ⟨_,[],rfl,rfl,rfl⟩⟩
     ·cases h
    case slice e=>
     cases hke:fF P n e with
     | none=>simp [hke] at hk
     | some Ke=>
      simp only [hke] at hk
      split at hk
      ·rename_i iq
       simp only [Option.some.injEq] at hk
       subst hk
       simp only [DataW.trod,hu] at h
       split at h<;>try (simp_all; done)
       ·exact ⟨[.ag false Ke.size []],by simp only [KC]; exact ⟨[],rfl,by simp⟩,by simp only [cg,aW]; exact ⟨_,[],rfl,.inl ⟨rfl,trivial⟩,rfl⟩⟩
       ·rename_i e' ad len cap heq
        simp only [Option.some.injEq,TypeDesc.slice.injEq] at heq
        subst heq
        split at h
        ·rename_i hc
         obtain ⟨_,hlc,_⟩:=hc
         simp only [Option.bind_eq_some_iff] at h
         obtain ⟨elems,jn,_⟩:=h
         obtain ⟨h1,h2⟩:=jU jn
         have hlen:elems.length=len:=by simpa using h1
         have hex: ∀i,i < len→ ∃xs,KC Ke xs∧ ∃l,w.cells? 0 (ad.add (i * P.cellsOf e)) (P.cellsOf e)=some l∧cg w (fun b _=>b < w.heap.size) xs l:=by
          intro i hi
          have :=h2 i i _ (by simp [hi]) (List.getElem?_eq_getElem (by omega:i < elems.length))
          simp only [Option.bind_eq_some_iff] at this
          obtain ⟨l,hl,ht⟩:=this
          obtain ⟨xs,hx1,hx2⟩:=qq n e Ke hke fuel l _ ht
          exact ⟨xs,hx1,l,hl,hx2⟩
         let es:aj:=(List.range len).map fun i=>if hi:i < len then (hex i hi).choose else []
         have oi: ∀i x,es[i]? =some x→KC Ke x∧ ∃l,w.cells? 0 (ad.add (i * P.cellsOf e)) (P.cellsOf e)=some l∧cg w (fun b _=>b < w.heap.size) x l:=by
          intro i x hx
          have hi:i < len:=by
           have :=(List.getElem?_eq_some_iff.1 hx).1
           simpa [es] using this
          simp only [es,List.getElem?_map,List.getElem?_range hi,Option.map_some,Option.some.injEq,hi,dif_pos] at hx
          subst hx
          exact (hex i hi).choose_spec
         have acm:es.length=len:=by simp [es]
         refine ⟨[.ag false Ke.size es],by simp only [KC]; exact ⟨es,rfl,fun x hx=>by
          obtain ⟨i,hi,rfl⟩:=List.getElem_of_mem hx
          exact (oi i _ (List.getElem?_eq_getElem hi)).1⟩,?_⟩
         simp only [cg,aW]
         refine ⟨_,[],rfl,.inr ⟨ad,ad.block,ad.off,cap,by rw [acm],fun h0=> ?_,by omega,(fun h=>by cases h),gO.mk _ _ _ _ fun i x hx=> ?_⟩,rfl⟩
         ·obtain ⟨_,l,hl,_⟩:=oi 0 _ (List.getElem?_eq_getElem (by omega:0 < es.length))
          obtain ⟨u,_,g7⟩:=(cW hl).2 0 (by omega)
          simp only [Nat.zero_mul,Addr.add,if_true] at g7
          unfold World.cell? at g7
          split at g7<;>try (cases g7; done)
          split at g7
          ·cases g7
          ·rename_i uA
           cases ad with
           | mk b o sp=>cases sp<;>simp_all
         ·obtain ⟨hkx,l,hl,RA⟩:=oi i x hx
          have hxl:=KC.length Ke x hkx
          refine ⟨hxl,iS.mk _ _ _ fun j c hc=> ?_⟩
          have hj:j < x.length:=(List.getElem?_eq_some_iff.1 hc).1
          obtain ⟨u,hu1,hu2⟩:=cg.at _ _ RA j c hc
          obtain ⟨u',Nn,cD⟩:=(cW hl).2 j (by omega)
          rw [hu1] at Nn
          simp only [Option.some.injEq] at Nn
          subst Nn
          obtain ⟨_,l0,Rr,_⟩:=oi 0 _ (List.getElem?_eq_getElem (by have :=(List.getElem?_eq_some_iff.1 hx).1; omega:0 < es.length))
          have uA:ad.spot=none:=by
           obtain ⟨u0,_,QP⟩:=(cW Rr).2 0 (by omega)
           simp only [Nat.zero_mul,Addr.add,if_true] at QP
           unfold World.cell? at QP
           split at QP<;>try (cases QP; done)
           split at QP
           ·cases QP
           ·rename_i uA
            simpa using uA
          obtain ⟨b,o,sp'⟩:=ad
          simp only at uA
          subst uA
          rw [eM,eM,iq.1] at cD
          exact ⟨World.block_lt_of_cell? w ⟨b,o+i * Ke.size+j,none⟩ cD,u,cD,hu2⟩
        ·cases h
      ·cases hk
    case struct fs=>
     cases hkf:qp P (fF P n) 0 fs.toList with
     | none=>simp [hkf] at hk
     | some Ks=>
      simp only [hkf] at hk
      split at hk
      ·rename_i iq
       simp only [Option.some.injEq] at hk
       subst hk
       simp only [DataW.trod,hu] at h
       split at h
       ·rename_i hlen
        simp only [Option.map_eq_some_iff] at h
        obtain ⟨ys,Ly,_⟩:=h
        have key: ∀(l:List Field) (off:Nat) (Ks:List Kd) (ys:List (DataW H×List MemPlace)),qp P (fF P n) off l=some Ks→
          l.mapM (fun f=>DataW.trod enc P w 0 sp held fuel f.type ((cs.drop f.offset).take (P.cellsOf f.type)))=some ys→off+nn Ks≤cs.length→
          ∃xs,EG Ks xs∧cg w (fun b _=>b < w.heap.size) xs ((cs.drop off).take (nn Ks)):=by
         intro l
         induction l with
         | nil=>
          intro off Ks ys hk _ _
          simp only [qp,Option.some.injEq] at hk
          subst hk
          exact ⟨[],by simp only [EG],by simp [nn,cg]⟩
         | cons f l ih=>
          intro off Ks ys hk hm hb
          simp only [qp] at hk
          cases hf:fF P n f.type with
          | none=>simp [hf] at hk
          | some K=>
           simp only [hf] at hk
           split at hk
           ·rename_i hc
            simp only [Option.map_eq_some_iff] at hk
            obtain ⟨Ks',Jz,rfl⟩:=hk
            rw [List.mapM_cons] at hm
            simp only [Option.bind_eq_bind,Option.bind_eq_some_iff,Option.pure_def,Option.some.injEq] at hm
            obtain ⟨y,hy,ys',acp,rfl⟩:=hm
            rw [hc.1,hc.2] at hy
            obtain ⟨a,ha1,QH⟩:=qq n f.type K hf fuel _ _ hy
            simp only [nn] at hb ⊢
            obtain ⟨b,uH,rW⟩:=ih (off+K.size) Ks' ys' Jz acp (by omega)
            refine ⟨a++b,by simp only [EG]; exact ⟨a,b,rfl,ha1,uH⟩,?_⟩
            rw [List.take_add,List.drop_drop]
            exact cg.append _ _ _ _ QH rW
           ·cases hk
        obtain ⟨xs,h1,h2⟩:=key fs.toList 0 Ks ys hkf Ly (by omega)
        refine ⟨xs,by simp only [KC]; exact h1,?_⟩
        rw [List.drop_zero,List.take_of_length_le (by omega)] at h2
        exact h2
       ·cases h
      ·cases hk
theorem GX {n:Nat} {t:TypeId} {K:Kd} (hk:fF P n t=some K) {sp:Nat→Bool} {held:Bool} {base:Nat} {v:Value} {d:DataW H} {p:List MemPlace}
  (hv:Value.okWide P w .any base t v) (h:DataW.Trod enc P w 0 sp held t v d p) : ∃x,KV K x∧aW w (fun b _=>b < w.heap.size) x v:=by
 obtain ⟨fuel,hf⟩:=h
 obtain ⟨xs,h1,h2⟩:=qq n t K hk fuel _ _ hf
 cases n with
 | zero=>simp [fF] at hk
 | succ n=>
  simp only [fF] at hk
  cases hu:P.underlying t with
  | none=>simp [hu] at hk
  | some dd=>
   rw [hu] at hk
   have one:(∀cs,v≠ .agg cs)→ ∀x,xs=[x]→aW w (fun b _=>b < w.heap.size) x v:=by
    intro hna x hx
    subst hx
    simp only [cg] at h2
    obtain ⟨u,us,he,g7,gP⟩:=h2
    subst gP
    cases v<;>simp_all [Value.cells]
   cases dd<;>simp only [reduceCtorEq] at hk
   case bool=>
    simp only [Option.some.injEq] at hk; subst hk
    simp only [KC] at h1
    obtain ⟨b,rfl⟩:=h1
    refine ⟨.bool b,by simp only [KV,KC]; exact ⟨b,rfl⟩,one (fun cs he=> ?_) _ rfl⟩
    subst he
    simp [Value.okWide,hu,Cell.okWide,Cell.ok] at hv
   case int k=>
    simp only [Option.some.injEq] at hk; subst hk
    simp only [KC] at h1
    obtain ⟨m,rfl,hwf⟩:=h1
    refine ⟨.int k m,by simp only [KV,KC]; exact ⟨m,rfl,hwf⟩,one (fun cs he=> ?_) _ rfl⟩
    subst he
    simp [Value.okWide,hu,Cell.okWide,Cell.ok] at hv
   case slice e=>
    split at hk
    ·split at hk
     ·simp only [Option.some.injEq] at hk; subst hk
      have hna: ∀cs,v≠ .agg cs:=fun cs he=>by
       subst he
       simp [Value.okWide,hu,Cell.okWide,Cell.ok] at hv
      have Ln:=h1
      simp only [KC] at h1
      obtain ⟨es,rfl,he⟩:=h1
      exact ⟨_,Ln,one hna _ rfl⟩
     ·cases hk
    ·cases hk
   case struct fs=>
    split at hk
    ·split at hk
     ·simp only [Option.some.injEq] at hk; subst hk
      simp only [Value.okWide,hu] at hv
      obtain ⟨cs,rfl,_⟩:=hv
      refine ⟨.agg xs,by simp only [KV]; exact ⟨xs,rfl,by simpa only [KC] using h1⟩,?_⟩
      simp only [aW]
      exact ⟨cs.toList,by simp,by simpa [Value.cells] using h2⟩
     ·cases hk
    ·cases hk
theorem vQ {n:Nat} : ∀(ts:List TypeId) (Ks:List Kd) (vs:List Value) (ds:List (DataW H)) (p:List MemPlace) (base:Nat) {sp:Nat→Bool} {held:Bool},bm (fF P n) ts=some Ks→
  DataW.TrodAll enc P w 0 sp held ts vs ds p→(∀(j:Nat) t v,ts[j]? =some t→vs[j]? =some v→Value.okWide P w .any base t v)→ ∃xs,LL Ks xs∧cg w (fun b _=>b < w.heap.size) xs vs
 | [],Ks,vs,ds,p,base,sp,held,hm,h,hv=>by
  simp only [bm,Option.some.injEq] at hm
  subst hm
  cases vs with
  | nil=>exact ⟨[],by simp only [LL],by simp only [cg]⟩
  | cons v vs=>simp [DataW.TrodAll] at h
 | t::ts,Ks,vs,ds,p,base,sp,held,hm,h,hv=>by
  simp only [bm] at hm
  cases hk:fF P n t with
  | none=>simp [hk] at hm
  | some K=>
   cases Jz:bm (fF P n) ts with
   | none=>simp [hk,Jz] at hm
   | some Ks'=>
    simp only [hk,Jz,Option.some.injEq] at hm
    subst hm
    cases vs with
    | nil=>simp [DataW.TrodAll] at h
    | cons v vs=>
     cases ds with
     | nil=>simp [DataW.TrodAll] at h
     | cons d ds=>
      simp only [DataW.TrodAll] at h
      obtain ⟨p1,q1,h1,h2,_⟩:=h
      obtain ⟨x,hx,hr⟩:=GX hk (hv 0 t v rfl rfl) h1
      obtain ⟨xs,As,hrs⟩:=vQ ts Ks' vs ds q1 base Jz h2 fun j t v ht CS=>hv (j+1) t v (by simpa using ht) (by simpa using CS)
      refine ⟨x::xs,by simp only [LL]; exact ⟨x,xs,rfl,hx,As⟩,by simp only [cg]; exact ⟨v,vs,rfl,hr,hrs⟩⟩
theorem np (hl:laidOutB P=true) {W W':World} : ∀(ts:List TypeId) (vs:List Value) (ds:List (DataW H)) (p:List MemPlace),(∀t∈ts,P.readableRec t=true∧t < P.types.size)→
  DataW.TrodAll enc P W 0 (fun _=>true) true ts vs ds p→Below W.heap.size W W'→(∀x∈p,x.block < W.heap.size)→DataW.TrodAll enc P W' 0 (fun b=>decide (b < W.heap.size)) true ts vs ds p
 | [],vs,ds,p,_,h,_,_=>by cases vs<;>cases ds<;>simp_all [DataW.TrodAll]
 | t::ts,vs,ds,p,ht,h,hb,dZ=>by
  cases vs with
  | nil=>simp [DataW.TrodAll] at h
  | cons v vs=>
   cases ds with
   | nil=>simp [DataW.TrodAll] at h
   | cons d ds=>
    simp only [DataW.TrodAll] at h ⊢
    obtain ⟨p1,q1,h1,h2,rfl⟩:=h
    have QA:=ht t (by simp)
    exact ⟨p1,q1,Below.trod hl QA.1 QA.2 h1 hb fun x hx=>dZ x (by simp [hx]),np hl ts vs ds q1 (fun t' ht'=>ht t' (by simp [ht'])) h2 hb fun x hx=>dZ x (by simp [hx]),rfl⟩
theorem mh {W:World} {sp:Nat→Bool} : ∀(ts:List TypeId) (vs:List Value) (ds:List (DataW H)) (p:List MemPlace),DataW.TrodAll enc P W 0 sp true ts vs ds p→ds.length=ts.length
 | [],vs,ds,p,h=>by cases vs<;>cases ds<;>simp_all [DataW.TrodAll]
 | t::ts,vs,ds,p,h=>by
  cases vs with
  | nil=>simp [DataW.TrodAll] at h
  | cons v vs=>
   cases ds with
   | nil=>simp [DataW.TrodAll] at h
   | cons d ds=>
    simp only [DataW.TrodAll] at h
    obtain ⟨p1,q1,h1,h2,rfl⟩:=h
    simp [mh ts vs ds q1 h2]
theorem acu {α:Type} {l:List α} (h:l.length=5) : ∃a b c d e,l=[a,b,c,d,e]:=by
 match l,h with
 | [a,b,c,d,e],_=>exact ⟨a,b,c,d,e,rfl⟩
theorem xm (R6:laidOutB P=true) {f:FuncId} {fn:Func} {s:ChangeSpec}
  (LM:s.vars=[]) {n:Nat} {Ks:List Kd} (hk:bm (fF P n) fn.params.toList=some Ks) (R7:fn.params.toList.all (fun t=>P.readableRec t&&decide (t < P.types.size))=true)
  {rt:TypeId} (ja:fn.resultTypes= #[rt]) (hrt:P.underlying rt=some .bool)
  (R8: ∀ds:List (DataW H),ds.length=fn.params.toList.length→(s.fn H (ds++[])).results=[.lit (.bool true)]∧(s.fn H (ds++[])).args=ds∧(s.fn H (ds++[])).vars=[])
  (acv: ∀xs,LL Ks xs→Ft P f xs (.bool true))
  (W:World) (base:Nat) (args:Array Value) (ds gs:List (DataW H)) (before:List MemPlace)
  (dI: ∀(j:Nat) t v,fn.params[j]? =some t→args[j]? =some v→Value.okWide P W .any base t v) (hW:DataW.Whole enc P fn.params.toList s.vars false W args.toList ds gs before) :
  Calls P f args W fun e W'=> ∃v,e= .returned v∧s.post enc P fn false true false false W args v W':=by
 have hW':=hW
 have dZ:=hW.lt
 obtain ⟨p,q,hA,hV,rfl,hfz,nj⟩:=hW
 rw [LM] at hV
 obtain ⟨rfl,rfl⟩:=trodVars_none hV
 obtain ⟨xs,As,hrx⟩:=vQ fn.params.toList Ks args.toList ds p base hk hA fun j t v ht hv=>dI j t v (by simpa using ht) (by simpa using hv)
 have qd:=(acv xs As).2 W args.toList (fun b _=>b < W.heap.size) _ hrx.args fun b o h=>h
 rw [Array.toArray_toList] at qd
 refine qd.mono fun e W' he=> ?_
 obtain ⟨v,S',rfl,hp⟩:=he
 have hvv:v= .bool true:=by
  have :=hp.res
  simpa only [jv,aW] using this
 subst hvv
 refine ⟨_,rfl,?_⟩
 obtain ⟨e1,e2,e3⟩:=R8 ds (mh _ _ _ _ hA)
 refine ⟨ds,[],p++[],[],p,[],hW',?_,?_,?_,hp.below.below.frame _,fun h=>by cases h⟩
 ·rw [e1,ja]
  exact trodAll_cons_mk (shut_bool hrt true) trodAll_mk0
 ·rw [e2]
  refine np R6 _ _ _ _ (fun t ht=> ?_) hA hp.below.below fun x hx=>dZ x (by simp [hx])
  have :=List.all_eq_true.1 R7 t ht
  simpa using this
 ·rw [e3,LM]
  simp [DataW.TrodVars]
end
noncomputable def aP (p:Prop) (a:aH) :aH:= @ite _ p (Classical.propDecidable p) a none
@[simp] theorem QQ (a:aH) :aP True a=a:=if_pos trivial
theorem au {p:Prop} {a:aH} (h:p) :aP p a=a:=by
 unfold aP
 exact if_pos h
inductive DT where
 | no
 | one (r:DV)
 | br (b:Bool) (x y:DT)
def DT.val:DT→aH
 | .no=>none
 | .one r=>some r
 | .br b x y=>cond b x.val y.val
def DT.run:DT→(DV→aH)→aH
 | .no,_=>none
 | .one r,k=>k r
 | .br b x y,k=>cond b (x.run k) (y.run k)
theorem DT.run_eq (k:DV→aH) : ∀t:DT,t.run k=t.val.bind k
 | .no=>rfl
 | .one r=>rfl
 | .br b x y=>by
  cases b
  ·exact DT.run_eq k y
  ·exact DT.run_eq k x
structure aR where
 D:aw→Prop
 val:aw→aH
 alt:aw→Option DT:=fun _=>none
 coh: ∀ds t,alt ds=some t→t.val=val ds:=by intro ds t h; cases h
def aR.ok (P:Program) (f:FuncId) (s:aR) :Prop:= ∀ds r,s.D ds→s.val ds=some r→bI P f ds r
inductive LR where
 | no
 | one (e:Ex) (st:St)
 | br (b:Bool) (x y:LR)
def LR.val:LR→Option (Ex×St)
 | .no=>none
 | .one e st=>some (e,st)
 | .br b x y=>cond b x.val y.val
def LR.run:LR→aX→aH
 | .no,_=>none
 | .one e st,k=>k e st
 | .br b x y,k=>cond b (x.run k) (y.run k)
theorem LR.run_eq (k:aX) : ∀r:LR,r.run k=fin k r.val
 | .no=>rfl
 | .one e st=>rfl
 | .br b x y=>by
  cases b
  ·exact LR.run_eq k y
  ·exact LR.run_eq k x
abbrev bK:=St→LR
def aG (fK:St→aX→aH) (st:St) (r:Ex×St) :Prop:= ∃n,∀k,oR fK n st k=k r.1 r.2
noncomputable def rI (lsp:Nat→Option bK) :uw:=fun key f L st=>
 match lsp key with
 | some s=>(match (s st).val with
  | some r=> @ite _ (∃n,iter f n st=some r) (Classical.propDecidable _) (some r) none
  | none=>none)
 | none=>iter f L st
theorem pj (lsp:Nat→Option bK) :(rI lsp).ok:=by
 intro key f L st r h
 unfold rI at h
 split at h
 ·split at h
  ·split at h
   ·rename_i hn
    cases h
    exact hn
   ·cases h
  ·cases h
 ·exact ⟨L,h⟩
noncomputable def vS (lsp:Nat→Option bK) :mX:=fun key fK L st k=>
 match lsp key with
 | some s=>(s st).run fun e dD=>aP (aG fK st (e,dD)) (k e dD)
 | none=>oR fK L st k
theorem zp {f:St→Option (Ex×St)} {fK:St→aX→aH} (h: ∀st k,fK st k=fin k (f st)) (st:St) (r:Ex×St) :aG fK st r↔ ∃n,iter f n st=some r:=by
 constructor
 ·rintro ⟨n,hn⟩
  refine ⟨n,?_⟩
  have :=hn fun e s=> @ite _ ((e,s)=r) (Classical.propDecidable _) (some (.bool true)) none
  rw [jQ h] at this
  simp only [if_pos] at this
  cases hi:iter f n st with
  | none=>simp [hi,fin] at this
  | some r'=>
   obtain ⟨e,s⟩:=r'
   simp only [hi,fin] at this
   split at this
   ·rename_i hr
    rw [hr]
   ·cases this
 ·rintro ⟨n,hn⟩
  refine ⟨n,fun k=> ?_⟩
  rw [jQ h,hn]
  rfl
theorem pk (lsp:Nat→Option bK) :mX.ok (rI lsp) (vS lsp):=by
 intro key f fK h L st k
 unfold rI vS
 cases lsp key with
 | none=>exact jQ h L st k
 | some s=>
  simp only [LR.run_eq]
  cases (s st).val with
  | none=>rfl
  | some r=>
   obtain ⟨e,dD⟩:=r
   generalize hr:(e,dD)=r
   simp only [fin,aP,hr]
   by_cases hl:aG fK st r
   ·rw [if_pos hl,if_pos ((zp h st r).1 hl)]
   ·rw [if_neg hl,if_neg fun g=>hl ((zp h st r).2 g)]
def EH (sp:FuncId→Option aR) (f:FuncId) (ds:aw) :Option aR:=
 match fQ ds with
 | some _=>none
 | none=>sp f
noncomputable def eZ (tab:FuncId→Option bb) (sp:FuncId→Option aR) (lsp:Nat→Option bK) (L:Nat) :Nat→FuncId→aw→aH
 | 0,_,_=>none
 | n+1,f,ds=>
  match EH sp f ds with
  | some s=>aP (s.D ds) (s.val ds)
  | none=>
  match tab f with
  | none=>none
  | some fn=>
   match fQ ds with
   | some (vs,os)=>
    if vs.length≤fn.ntmps then
     match exec (eZ tab sp lsp L n) (rI lsp) L fn.body (St.oz vs os) with
     | some (.bC,st)=>sr st os.length fn.res
     | some (.ret,st)=>sr st os.length fn.res
     | _=>none
    else none
   | none=>
   if ds.length≤fn.ntmps then
    match exec (eZ tab sp lsp L n) (rI lsp) L fn.body (St.init ds) with
    | some (.bC,st)=>jN st fn.res
    | some (.ret,st)=>jN st fn.res
    | _=>none
   else none
noncomputable def fnK (tab:FuncId→Option bb) (sp:FuncId→Option aR) (lsp:Nat→Option bK) (L n:Nat) (call:FuncId→aw→aH) (bt:cV) (f:FuncId) (ds:aw) (k:DV→aH) :aH:=
  match tab f with
  | none=>none
  | some fn=>
   match fQ ds with
   | some (vs,os)=>
    if vs.length≤fn.ntmps then
     wR vs os fun st=>fa call bt (vS lsp) L fn.body st fun e st=>match e with
      | .bC=>vk st os.length fn.res k
      | .ret=>vk st os.length fn.res k
      | .ex _=>none
    else none
   | none=>
   if ds.length≤fn.ntmps then
    fa call bt (vS lsp) L fn.body (St.init ds) fun e st=>match e with
     | .bC=>jt st fn.res k
     | .ret=>jt st fn.res k
     | .ex _=>none
   else none
noncomputable def qt (tab:FuncId→Option bb) (sp:FuncId→Option aR) (lsp:Nat→Option bK) (L:Nat) :Nat→cV
 | 0,_,_,_=>none
 | n+1,f,ds,k=>
  match EH sp f ds with
  | some s=>aP (s.D ds) (match s.alt ds with | some t=>t.run k | none=>aA (s.val ds) k)
  | none=>fnK tab sp lsp L n (eZ tab sp lsp L n) (qt tab sp lsp L n) f ds k
theorem mM (tab:FuncId→Option bb) (sp:FuncId→Option aR) (lsp:Nat→Option bK) (L:Nat) : ∀n,cV.ok (eZ tab sp lsp L n) (qt tab sp lsp L n)
 | 0,f,ds,k=>rfl
 | n+1,f,ds,k=>by
  simp only [qt,eZ,fnK]
  cases EH sp f ds with
  | some s=>
   have hm:(match s.alt ds with | some t=>t.run k | none=>aA (s.val ds) k)=(s.val ds).bind k:=by
    cases ha:s.alt ds with
    | none=>exact bT _ _
    | some t=>exact (DT.run_eq k t).trans (by rw [s.coh ds t ha])
   simp only [hm]
   simp only [aP]
   split<;>rfl
  | none=>
  simp only
  cases tab f with
  | none=>rfl
  | some fn=>
   simp only
   cases fQ ds with
   | some p=>
    obtain ⟨vs,os⟩:=p
    simp only
    split
    ·simp only [vj]
     rw [ek (mM tab sp lsp L n) (pk lsp)]
     cases exec (eZ tab sp lsp L n) (rI lsp) L fn.body (St.oz vs os) with
     | none=>rfl
     | some r=>
      obtain ⟨e,st⟩:=r
      cases e with
      | bC=>exact oO _ _ _ _
      | ret=>exact oO _ _ _ _
      | ex id=>rfl
    ·rfl
   | none=>
   simp only
   split
   ·rw [ek (mM tab sp lsp L n) (pk lsp)]
    cases exec (eZ tab sp lsp L n) (rI lsp) L fn.body (St.init ds) with
    | none=>rfl
    | some r=>
     obtain ⟨e,st⟩:=r
     cases e with
     | bC=>exact gy _ _ _
     | ret=>exact gy _ _ _
     | ex id=>rfl
   ·rfl
theorem mi {P:Program} {tab:FuncId→Option bb} {sp:FuncId→Option aR} {lsp:Nat→Option bK} (qu: ∀f jg,tab f=some jg→ ∃fn,P.funcs[f]? =some fn∧D3 P fn=some jg.erase) (uA: ∀f s,sp f=some s→s.ok P f) (L:Nat) : ∀n,dc P (eZ tab sp lsp L n):=by
 intro n
 induction n with
 | zero=>exact ⟨fun f ds r h=>by simp [eZ] at h,fun f vs os x x5 h=>by simp [eZ] at h⟩
 | succ n ih=>
  refine ⟨fun f ds r h=> ?_,fun f vs os x x5 h=> ?_⟩
  ·simp only [eZ] at h
   cases hs:EH sp f ds with
   | some s=>
    simp only [hs] at h
    by_cases hD:s.D ds
    ·simp only [aP,if_pos hD] at h
     exact uA f s (by unfold EH at hs; split at hs<;>first | (cases hs; done) | exact hs) ds r hD h
    ·simp only [aP,if_neg hD] at h
     cases h
   | none=>
   simp only [hs] at h
   cases ht:tab f with
   | none=>simp [ht] at h
   | some jg=>
    obtain ⟨fn,hU,j9⟩:=qu f jg ht
    simp only [ht] at h
    cases hf:fQ ds with
    | some p=>
     intro w us S0 o ha hS
     exact (xl hf ha).elim
    | none=>
     simp only [hf] at h
     split at h
     ·rename_i hlen
      exact (CZ ih (pj lsp) hU j9 hlen h).x
     ·cases h
  ·simp only [eZ,EH,tC] at h
   cases ht:tab f with
   | none=>simp [ht] at h
   | some jg=>
    obtain ⟨fn,hU,j9⟩:=qu f jg ht
    simp only [ht] at h
    split at h
    ·rename_i hlen
     exact C1 ih (pj lsp) hU j9 hlen h
    ·cases h
noncomputable def LB (tab:FuncId→Option bb) (sp:FuncId→Option aR) (lsp:Nat→Option bK) (L n:Nat) (h:Hint) (b:AC) :St→aX→aH:=
 yA h (fa (eZ tab sp lsp L n) (qt tab sp lsp L n) (vS lsp) L b)
def R9 (f:St→aX→aH) (n:Nat) (k:aX) :aX:=fun e dD=>match e with | .bC=>oR f n dD k | e=>k e dD
theorem jh (f:St→aX→aH) (n:Nat) (st:St) (k:aX) :oR f (n+1) st k=f st (R9 f n k):=rfl
theorem tD {f:St→aX→aH} {st:St} {r:Ex×St} (h1:r.1≠ .bC) (h: ∀k,f st k=k r.1 r.2) :aG f st r:=⟨1,fun k=>by
 rw [jh,h]
 revert h1
 cases r.1 with
 | bC=>exact fun h=>absurd rfl h
 | _=>exact fun _=>rfl⟩
theorem eF {f:St→aX→aH} (S:Nat→St) (R:Nat→Ex×St) (N:Nat)
  (jx: ∀i,i < N→((∀k,f (S i) k=k .bC (S (i+1)))∧R i=R (i+1))∨((R i).1≠ .bC∧ ∀k,f (S i) k=k (R i).1 (R i).2))
  (By:(R N).1≠ .bC∧ ∀k,f (S N) k=k (R N).1 (R N).2) : ∀i,i≤N→aG f (S i) (R i):=by
 have one: ∀i,((R i).1≠ .bC∧ ∀k,f (S i) k=k (R i).1 (R i).2)→aG f (S i) (R i):=fun i h=>⟨1,fun k=>by
  rw [jh,h.2]
  have :=h.1
  revert this
  cases (R i).1 with
  | bC=>exact fun h=>absurd rfl h
  | _=>exact fun _=>rfl⟩
 have key: ∀m i,i≤N→N - i=m→aG f (S i) (R i):=by
  intro m
  induction m with
  | zero=>
   intro i h1 h2
   cases (by omega:i=N)
   exact one _ By
  | succ m ih=>
   intro i h1 h2
   rcases jx i (by omega) with ⟨h,hr⟩ | h
   ·obtain ⟨n,hn⟩:=ih (i+1) (by omega) (by omega)
    refine ⟨n+1,fun k=> ?_⟩
    rw [jh,h,hr]
    exact hn k
   ·exact one _ h
 exact fun i h=>key _ i h rfl
def aV:FuncId→Option aR:=fun _=>none
theorem aY {P:Program} : ∀f s,aV f=some s→s.ok P f:=fun f s h=>by cases h
def bL (g:FuncId) (s:aR) (sp:FuncId→Option aR) :FuncId→Option aR:=fun f=>if f=g then some s else sp f
theorem aM {P:Program} {g:FuncId} {s:aR} {sp:FuncId→Option aR} (hs:s.ok P g) (uA: ∀f s,sp f=some s→s.ok P f) : ∀f s',bL g s sp f=some s'→s'.ok P f:=by
 intro f s' h
 unfold bL at h
 split at h
 ·rename_i hf
  cases h
  rw [hf]
  exact hs
 ·exact uA f s' h
@[simp] theorem xn (q:IntKind) (n:Int) :(DV.int q n).ak=n:=rfl
@[simp] theorem Sa (b:Bool) :(DV.bool b).toB=b:=rfl
def rows:DV→aj
 | .sl _ _ es=>es
 | _=>[]
noncomputable def FK (tab:FuncId→Option bb) (sp:FuncId→Option aR) (lsp:Nat→Option bK) (L n:Nat) (f:FuncId) (ds:aw) :aH:=
 fnK tab sp lsp L n (eZ tab sp lsp L n) (qt tab sp lsp L n) f ds some
theorem LN {P:Program} {tab:FuncId→Option bb} {sp:FuncId→Option aR} {lsp:Nat→Option bK} (qu: ∀f jg,tab f=some jg→ ∃fn,P.funcs[f]? =some fn∧D3 P fn=some jg.erase) (uA: ∀f s,sp f=some s→s.ok P f) {L n:Nat} {f:FuncId} {ds:aw} {r:DV}
  (hr:FK tab sp lsp L n f ds=some r) :Ft P f ds r:=by
 unfold FK at hr
 have hK:=mM tab sp lsp L n
 unfold fnK at hr
 cases ht:tab f with
 | none=>simp [ht] at hr
 | some jg=>
  obtain ⟨fn,hU,j9⟩:=qu f jg ht
  simp only [ht] at hr
  cases hf:fQ ds with
  | some p=>exact ⟨⟨fn,hU,Nm j9⟩,fun w vs S0 o ha _=>(xl hf ha).elim⟩
  | none=>
  simp only [hf] at hr
  split at hr
  ·rename_i hlen
   refine CZ (mi (lsp:=lsp) qu uA L n) (pj lsp) (L:=L) hU j9 hlen ?_
   rw [ek hK (pk lsp)] at hr
   cases he:exec (eZ tab sp lsp L n) (rI lsp) L jg.body (St.init ds) with
   | none=>simp [he,fin] at hr
   | some r'=>
    obtain ⟨e,st⟩:=r'
    rw [he] at hr
    cases e with
    | bC=>simpa [fin,gy] using hr
    | ret=>simpa [fin,gy] using hr
    | ex id=>simp [fin] at hr
  ·cases hr
end Go.Proofs.YtglbgfcegifeeaaGreat.Vm
namespace Go.Proofs.YtglbgfcegifeeaaGreat.Vm
open Go Go.RowKit
def fj (x y:DV) :Prop:= ∀(w:World) (S:Nat→Nat→Prop) (v:Value),aW w S x v→aW w S y v
def gY (xs ys:aw) :Prop:= ∀(w:World) (S:Nat→Nat→Prop) (vs:List Value),cg w S xs vs→cg w S ys vs
theorem fj.refl (x:DV) :fj x x:=fun _ _ _ h=>h
theorem fj.trans {x y z:DV} (h1:fj x y) (h2:fj y z) :fj x z:=fun w S v h=>h2 w S v (h1 w S v h)
theorem gY.refl (x:aw) :gY x x:=fun _ _ _ h=>h
theorem gY.nil:gY [] []:=fun _ _ _ h=>h
theorem gY.cons {x y:DV} {xs ys:aw} (h:fj x y) (hl:gY xs ys) :gY (x::xs) (y::ys):=fun w S vs hv=>by
 simp only [cg] at hv ⊢
 obtain ⟨u,us,rfl,h1,h2⟩:=hv
 exact ⟨u,us,rfl,h w S u h1,hl w S us h2⟩
theorem fj.nil (k:Bool) (sz:Nat) :fj .af (.ag k sz []):=fun _ _ _ h=>h.of_nil
theorem fj.sl (q:SK) (sz:Nat) (es:aj) :fj (.sl q sz es) (.ag false sz es):=fun _ _ _ h=>h.F5 fun h=>by cases h
theorem fj.ro (q:SK) (sz:Nat) (es:aj) :fj (.sl q sz es) (.sl .ro sz es):=fun w S v h=>by
 simp only [aW] at h ⊢
 obtain ⟨a,b,o,cap,h1,h0,h2,h3,h4⟩:=h
 exact ⟨a,b,o,cap,h1,h0,h2,(fun h=>by cases h),h4⟩
theorem fj.ag (k:Bool) (sz:Nat) (es:aj) :fj (.ag k sz es) (.ag false sz es):=fun w S v h=>by
 rcases h.ag with ⟨rfl,rfl⟩ | h
 ·simp only [aW]
  exact .inl (by simp)
 ·exact h.F5 fun h=>by cases h
theorem fj.agg {xs ys:aw} (h:gY xs ys) :fj (.agg xs) (.agg ys):=fun w S v hv=>by
 simp only [aW] at hv ⊢
 obtain ⟨vs,rfl,hl⟩:=hv
 exact ⟨vs,rfl,h w S vs hl⟩
theorem fj.tuple {xs ys:aw} (h:gY xs ys) :fj (.tuple xs) (.tuple ys):=fun w S v hv=>by
 simp only [aW] at hv ⊢
 obtain ⟨vs,rfl,hl⟩:=hv
 exact ⟨vs,rfl,h w S vs hl⟩
def pn:aw→Bool
 | .mv _ _ _::_=>false
 | _=>true
theorem dy {w:World} {S0:Nat→Nat→Prop} {ds:aw} {vs:List Value} {o:dw} (hm:pn ds=true) :iZ w S0 ds vs o↔cg w S0 ds vs∧o=dw.all w:=by
 unfold iZ
 split
 ·simp [pn] at hm
 ·exact Iff.rfl
theorem bI.args {P:Program} {f:FuncId} {ds Bc:aw} {r:DV} (hle:gY ds Bc) (h1:pn ds=true) (h2:pn Bc=true) (h:bI P f Bc r) :bI P f ds r:=fun w vs S0 o ha hS=>
 h w vs S0 o ((dy h2).2 ⟨hle w S0 vs ((dy h1).1 ha).1,((dy h1).1 ha).2⟩) hS
theorem bI.ag {P:Program} {f:FuncId} {k:Bool} {sz:Nat} {es:aj} {rest:aw} {r:DV} (h1:es=[]→bI P f (.af::rest) r) (h2:bI P f (.sl .ro sz es::rest) r) :bI P f (.ag k sz es::rest) r:=fun w vs S0 o ha hS=>by
 have hr:=(dy (ds:= .ag k sz es::rest) rfl).1 ha
 obtain ⟨hl,ho⟩:=hr
 simp only [cg] at hl
 obtain ⟨u,us,rfl,h3,h4⟩:=hl
 rcases h3.ag with ⟨h5,h6⟩ | h5
 ·exact h1 h6 w _ S0 o ((dy rfl).2 ⟨by simp only [cg,aW]; exact ⟨u,us,rfl,h5,h4⟩,ho⟩) hS
 ·exact h2 w _ S0 o ((dy rfl).2 ⟨by simp only [cg]; exact ⟨u,us,rfl,fj.ro _ _ _ w S0 u h5,h4⟩,ho⟩) hS
theorem Ft.args {P:Program} {f:FuncId} {ds Bc:aw} {r:DV} (hle:gY ds Bc) (h1:pn ds=true) (h2:pn Bc=true) (h:Ft P f Bc r) :Ft P f ds r:=⟨h.1,fun w vs S0 o ha hS=>
 h.2 w vs S0 o ((dy h2).2 ⟨hle w S0 vs ((dy h1).1 ha).1,((dy h1).1 ha).2⟩) hS⟩
theorem iC.read {o:dw} {S0 S':Nat→Nat→Prop} {r r':DV} {v:Value} {w':World} (h:iC o S0 r v w' S') (hle:fj (ct r) (ct r')) (hr:ct r'=r') : ∃S'',iC o S0 r' v w' S'':=by
 refine ⟨fun b p=>S' b p∨(¬ o.gz b∧b < w'.heap.size),h.below,fun b p hb=> .inl (h.up b p hb),fun b p hb=> ?_,fun b p hb=> ?_,?_⟩
 ·rcases hb with hb | hb
  ·exact h.new b p hb
  ·exact .inr hb.1
 ·rcases hb with hb | hb
  ·exact h.live b p hb
  ·exact hb.2
 ·have :=jv.read (S':=fun b p=>S' b p∨(¬ o.gz b∧b < w'.heap.size)) (fun b p h=> .inl h) (fun b p h1 h2=> .inr ⟨h1,h2⟩) h.res
  have h2:=hle _ _ _ this
  rw [hr] at h2
  have h3:=vJ (B:=o.gz) h2
  rwa [hr] at h3
theorem bI.res {P:Program} {f:FuncId} {ds:aw} {r r':DV} (h:bI P f ds r) (hle:fj (ct r) (ct r')) (hr:ct r'=r') :bI P f ds r':=fun w vs S0 o ha hS=>
 (h w vs S0 o ha hS).mono fun v w' ⟨S',hp⟩=>hp.read hle hr
def ar:DV→aj
 | .sl _ _ es=>es
 | .ag _ _ es=>es
 | _=>[]
theorem cK (k:Bool) (sz:Nat) (es:aj) :ar (.ag k sz es)=es:=rfl
theorem de (q:SK) (sz:Nat) (es:aj) :ar (.sl q sz es)=es:=rfl
theorem cL:ar .af=[]:=rfl
def gen (sz:Nat) (x:DV) :DV:= .ag false sz (ar x)
def Sl (sz:Nat) (x:DV) :Prop:=x= .af∨(∃q es,x= .sl q sz es)∨ ∃k es,x= .ag k sz es
theorem Sl.le {sz:Nat} {x:DV} (h:Sl sz x) :fj x (gen sz x):=by
 rcases h with rfl | ⟨q,es,rfl⟩ | ⟨k,es,rfl⟩
 ·exact fj.nil false sz
 ·exact fj.sl q sz es
 ·exact fj.ag k sz es
theorem Sl.nil (sz:Nat) :Sl sz .af:= .inl rfl
theorem Sl.sl (sz:Nat) (q:SK) (es:aj) :Sl sz (.sl q sz es):= .inr (.inl ⟨q,es,rfl⟩)
theorem Sl.ag (sz:Nat) (k:Bool) (es:aj) :Sl sz (.ag k sz es):= .inr (.inr ⟨k,es,rfl⟩)
theorem Sl.pn {sz:Nat} {x:DV} (h:Sl sz x) (l:aw) :pn (x::l)=true:=by
 rcases h with rfl | ⟨q,es,rfl⟩ | ⟨k,es,rfl⟩<;>rfl
theorem bI.kU {P:Program} {f:FuncId} {sz:Nat} {x:DV} {rest:aw} {r:DV} (hx:Sl sz x) (h:bI P f (.ag false sz (ar x)::rest) r) :bI P f (x::rest) r:=
 h.args (gY.cons hx.le (gY.refl _)) (hx.pn _) rfl
theorem bI.Np {P:Program} {f:FuncId} {sz sz2:Nat} {x y:DV} {rest:aw} {r:DV} (hx:Sl sz x) (hy:Sl sz2 y) (h:bI P f (.ag false sz (ar x):: .ag false sz2 (ar y)::rest) r) :bI P f (x::y::rest) r:=
 h.args (gY.cons hx.le (gY.cons hy.le (gY.refl _))) (hx.pn _) rfl
theorem aL {P:Program} {tab:FuncId→Option bb} {sp:FuncId→Option aR} {lsp:Nat→Option bK} (qu: ∀f jg,tab f=some jg→ ∃fn,P.funcs[f]? =some fn∧D3 P fn=some jg.erase) (uA: ∀f s,sp f=some s→s.ok P f) {f:FuncId} {ds:aw} {r:DV}
  (L n:Nat) (h:FK tab sp lsp L n f ds=some r) :bI P f ds r:=(LN qu uA h).x
theorem cn (n:Int) :n - 0=n:=Int.sub_zero n
theorem bZ (a b:Nat) :((a:Int)≤(b:Int))=(a≤b):=propext (by omega)
theorem cp (a:Nat) :((0:Int)≤(a:Int))=True:=propext ⟨fun _=>trivial,fun _=>by omega⟩
theorem ez {f:St→aX→aH} {σ:Type} (S:σ→St) (μ:σ→Nat) (inv:σ→Prop) (r:σ→Ex×St)
  (h: ∀s,inv s→(∃s',inv s'∧μ s' < μ s∧r s'=r s∧ ∀k,f (S s) k=k .bC (S s'))∨((r s).1≠ .bC∧ ∀k,f (S s) k=k (r s).1 (r s).2)) : ∀s,inv s→aG f (S s) (r s):=by
 have key: ∀m s,inv s→μ s≤m→aG f (S s) (r s):=by
  intro m
  induction m with
  | zero=>
   intro s hs hm
   rcases h s hs with ⟨s',_,h2,_⟩ | ⟨h1,h2⟩
   ·omega
   ·exact tD h1 h2
  | succ m ih=>
   intro s hs hm
   rcases h s hs with ⟨s',h1,h2,h3,h4⟩ | ⟨h1,h2⟩
   ·obtain ⟨n,hn⟩:=ih s' h1 (by omega)
    refine ⟨n+1,fun k=> ?_⟩
    rw [jh,h4,← h3]
    exact hn k
   ·exact tD h1 h2
 exact fun s hs=>key (μ s) s hs (Nat.le_refl _)
theorem EI {f:St→aX→aH} {α:Type} (S:Nat→St) (es:List α) (R:Nat→Ex×St)
  (h: ∀i (hi:i < es.length),((∀k,f (S i) k=k .bC (S (i+1)))∧R i=R (i+1))∨((R i).1≠ .bC∧ ∀k,f (S i) k=k (R i).1 (R i).2))
  (By:(R es.length).1≠ .bC∧ ∀k,f (S es.length) k=k (R es.length).1 (R es.length).2) :aG f (S 0) (R 0):=
 eF S R es.length h By 0 (Nat.zero_le _)
theorem gZ {α:Type} {l:List α} {i:Nat} (hi:i < l.length) (k:α→aH) :aA l[((i:Nat) :Int).toNat]? k=k l[i]:=by
 rw [Int.toNat_natCast,List.getElem?_eq_getElem hi]
 rfl
theorem bf {α:Type} {l:List α} {i:Nat} (hi:i < l.length) (k:α→aH) :aA l[i]? k=k l[i]:=by
 rw [List.getElem?_eq_getElem hi]
 rfl
theorem a8 {i:Nat} (h:i < 1000000000000) :IntKind.i64.wrap ((i:Int)+1)=((i+1:Nat) :Int):=by rw [bx]<;>omega
theorem cr {i n:Nat} (h:i < n) :decide ((i:Int) < (n:Int))=true:=decide_eq_true (by omega)
theorem aO (n:Nat) :decide ((n:Int) < (n:Int))=false:=decide_eq_false (by omega)
def fw:Nat→Bool
 | 0=>true
 | n+1=> !fw n
def bH (n:Nat) (P:Nat→Bool) (row:Nat→aw) :aj:=((List.range n).filter P).map row
theorem eD (n:Nat) (P:Nat→Bool) (row:Nat→aw) :bH (n+1) P row=bH n P row++cond (P n) [row n] []:=by
 unfold bH
 rw [List.range_succ,List.filter_append,List.map_append]
 cases h:P n<;>simp [h]
theorem tE (n:Nat) (P:Nat→Bool) (row:Nat→aw) :(bH n P row).length≤n:=by
 unfold bH
 rw [List.length_map]
 exact Nat.le_trans (List.length_filter_le _ _) (by rw [List.length_range]; exact Nat.le_refl n)
theorem Bz {n:Nat} {P Q:Nat→Bool} {r q:Nat→aw} (h: ∀i,i < n→P i=Q i) (h2: ∀i,i < n→r i=q i) :bH n P r=bH n Q q:=by
 induction n with
 | zero=>rfl
 | succ n ih=>rw [eD,eD,ih (fun i hi=>h i (by omega)) (fun i hi=>h2 i (by omega)),h n (by omega),h2 n (by omega)]
def il (s s' sz:Nat) :aj→AV
 | []=> .d .af
 | _::t=> .ah (cond (fw t.length) s s') sz 0 (t.length+1)
def eP (el sz:Nat) :aj→Option Ob
 | []=>none
 | a::t=>cond (fw t.length) (some (.aC el sz (a::t))) none
def eR (el sz:Nat) :aj→Option Ob
 | []=>none
 | a::t=>cond (fw t.length) none (some (.aC el sz (a::t)))
theorem EJ {s s' el sz:Nat} {O:aj} {M:AV→Option Ob→Option Ob→Prop} (hA:O=[]→M (.d .af) none none)
  (hB:O≠[]→fw (O.length - 1)=true→M (.ah s sz 0 O.length) (some (.aC el sz O)) none)
  (hC:O≠[]→fw (O.length - 1)=false→M (.ah s' sz 0 O.length) none (some (.aC el sz O))) :M (il s s' sz O) (eP el sz O) (eR el sz O):=by
 match O with
 | []=>exact hA rfl
 | a::t=>
  cases h:fw t.length with
  | true=>
   simp only [il,eP,eR,h,cond_true]
   exact hB (by simp) h
  | false=>
   simp only [il,eP,eR,h,cond_false]
   exact hC (by simp) h
theorem LO {s s' el sz:Nat} {O:aj} (hO:O≠[]) (hp:fw (O.length - 1)=true) (r:aw) :
  il s s' sz (O++[r])= .ah s' sz 0 (O++[r]).length∧eP el sz (O++[r])=none∧eR el sz (O++[r])=some (.aC el sz (O++[r])):=by
 match O,hO with
 | a::t,_=>
  have vo:fw t.length=true:=hp
  have h2:fw (t++[r]).length=false:=by
   rw [List.length_append,List.length_singleton]
   show (!fw t.length)=false
   rw [vo]
   rfl
  simp only [List.cons_append,il,eP,eR,h2,cond_false,List.length_cons,and_self]
theorem LP {s s' el sz:Nat} {O:aj} (hO:O≠[]) (hp:fw (O.length - 1)=false) (r:aw) :
  il s s' sz (O++[r])= .ah s sz 0 (O++[r]).length∧eP el sz (O++[r])=some (.aC el sz (O++[r]))∧eR el sz (O++[r])=none:=by
 match O,hO with
 | a::t,_=>
  have vo:fw t.length=false:=hp
  have h2:fw (t++[r]).length=true:=by
   rw [List.length_append,List.length_singleton]
   show (!fw t.length)=true
   rw [vo]
   rfl
  simp only [List.cons_append,il,eP,eR,h2,cond_true,List.length_cons,and_self]
theorem tF {s s' el sz:Nat} {O:aj} (hO:O≠[]) (hp:fw (O.length - 1)=true) :
  il s s' sz O= .ah s sz 0 O.length∧eP el sz O=some (.aC el sz O)∧eR el sz O=none:=by
 match O,hO with
 | a::t,_=>
  have vo:fw t.length=true:=hp
  simp only [il,eP,eR,vo,cond_true,List.length_cons,and_self]
theorem tG {s s' el sz:Nat} {O:aj} (hO:O≠[]) (hp:fw (O.length - 1)=false) :
  il s s' sz O= .ah s' sz 0 O.length∧eP el sz O=none∧eR el sz O=some (.aC el sz O):=by
 match O,hO with
 | a::t,_=>
  have vo:fw t.length=false:=hp
  simp only [il,eP,eR,vo,cond_false,List.length_cons,and_self]
def C2 (E:AV→Option Ob→Option Ob→St) (s s' el sz:Nat) (O:aj) :LR:=
 .br O.isEmpty (.one (.ex 0) (E (.d .af) none none))
  (.br (fw (O.length - 1)) (.one (.ex 0) (E (.ah s sz 0 O.length) (some (.aC el sz O)) none)) (.one (.ex 0) (E (.ah s' sz 0 O.length) none (some (.aC el sz O)))))
theorem mN {f:St→aX→aH} (S:AV→Nat→Option Ob→Option Ob→St) (E:AV→Option Ob→Option Ob→St) {s s' el sz:Nat} (N:Nat) (P:Nat→Bool) (row:Nat→aw)
  (hA: ∀i,i < N→ ∀k,f (S (.d .af) i none none) k=cond (P i) (k .bC (S (.ah s sz 0 1) (i+1) (some (.aC el sz [row i])) none)) (k .bC (S (.d .af) (i+1) none none)))
  (hB: ∀i,i < N→ ∀O:aj,O.length≤i→ ∀k,f (S (.ah s sz 0 O.length) i (some (.aC el sz O)) none) k=
   cond (P i) (k .bC (S (.ah s' sz 0 (O++[row i]).length) (i+1) none (some (.aC el sz (O++[row i]))))) (k .bC (S (.ah s sz 0 O.length) (i+1) (some (.aC el sz O)) none)))
  (hC: ∀i,i < N→ ∀O:aj,O.length≤i→ ∀k,f (S (.ah s' sz 0 O.length) i none (some (.aC el sz O))) k=
   cond (P i) (k .bC (S (.ah s sz 0 (O++[row i]).length) (i+1) (some (.aC el sz (O++[row i]))) none)) (k .bC (S (.ah s' sz 0 O.length) (i+1) none (some (.aC el sz O)))))
  (eA: ∀k,f (S (.d .af) N none none) k=k (.ex 0) (E (.d .af) none none))
  (eB: ∀O:aj,∀k,f (S (.ah s sz 0 O.length) N (some (.aC el sz O)) none) k=k (.ex 0) (E (.ah s sz 0 O.length) (some (.aC el sz O)) none))
  (eC: ∀O:aj,∀k,f (S (.ah s' sz 0 O.length) N none (some (.aC el sz O))) k=k (.ex 0) (E (.ah s' sz 0 O.length) none (some (.aC el sz O)))) :
  aG f (S (.d .af) 0 none none) (.ex 0,E (il s s' sz (bH N P row)) (eP el sz (bH N P row)) (eR el sz (bH N P row))):=by
 refine eF (fun i=>S (il s s' sz (bH i P row)) i (eP el sz (bH i P row)) (eR el sz (bH i P row))) (fun _=>(.ex 0,E (il s s' sz (bH N P row)) (eP el sz (bH N P row)) (eR el sz (bH N P row)))) N (fun i hi=> .inl ⟨fun k=> ?_,rfl⟩) ⟨by simp,fun k=> ?_⟩ 0 (Nat.zero_le _)
 ·have hl:=tE i P row
  rw [eD]
  generalize bH i P row=O at *
  by_cases hO:O=[]
  ·subst hO
   refine (hA i hi k).trans ?_
   cases P i with
   | true=>rfl
   | false=>rfl
  ·cases hp:fw (O.length - 1) with
   | true=>
    have h0:=tF (s:=s) (s':=s') (el:=el) (sz:=sz) hO hp
    have h1:=LO (s:=s) (s':=s') (el:=el) (sz:=sz) hO hp (row i)
    rw [h0.1,h0.2.1,h0.2.2,hB i hi O hl k]
    cases P i with
    | true=>rw [cond_true,cond_true,h1.1,h1.2.1,h1.2.2]
    | false=>rw [cond_false,cond_false,List.append_nil,h0.1,h0.2.1,h0.2.2]
   | false=>
    have h0:=tG (s:=s) (s':=s') (el:=el) (sz:=sz) hO hp
    have h1:=LP (s:=s) (s':=s') (el:=el) (sz:=sz) hO hp (row i)
    rw [h0.1,h0.2.1,h0.2.2,hC i hi O hl k]
    cases P i with
    | true=>rw [cond_true,cond_true,h1.1,h1.2.1,h1.2.2]
    | false=>rw [cond_false,cond_false,List.append_nil,h0.1,h0.2.1,h0.2.2]
 ·generalize bH N P row=O at *
  by_cases hO:O=[]
  ·subst hO
   exact eA k
  ·cases hp:fw (O.length - 1) with
   | true=>
    have h0:=tF (s:=s) (s':=s') (el:=el) (sz:=sz) hO hp
    rw [h0.1,h0.2.1,h0.2.2]
    exact eB O k
   | false=>
    have h0:=tG (s:=s) (s':=s') (el:=el) (sz:=sz) hO hp
    rw [h0.1,h0.2.1,h0.2.2]
    exact eC O k
theorem mO {f:St→aX→aH} {st:St} {E:AV→Option Ob→Option Ob→St} {s s' el sz:Nat} {O:aj} (h:aG f st (.ex 0,E (il s s' sz O) (eP el sz O) (eR el sz O))) {r1 r2 r3 r:aH} (h1:O=[]→r1=r) (h2:O≠[]→r2=r) (h3:O≠[]→r3=r) :
  cond O.isEmpty (aP (aG f st (.ex 0,E (.d .af) none none)) r1) (cond (fw (O.length - 1)) (aP (aG f st (.ex 0,E (.ah s sz 0 O.length) (some (.aC el sz O)) none)) r2) (aP (aG f st (.ex 0,E (.ah s' sz 0 O.length) none (some (.aC el sz O)))) r3))=r:=by
 by_cases hO:O=[]
 ·subst hO
  exact (au h).trans (h1 rfl)
 ·have he:O.isEmpty=false:=by cases O with | nil=>exact absurd rfl hO | cons a t=>rfl
  rw [he,cond_false]
  cases hp:fw (O.length - 1) with
  | true=>
   have h0:=tF (s:=s) (s':=s') (el:=el) (sz:=sz) hO hp
   rw [h0.1,h0.2.1,h0.2.2] at h
   exact (au h).trans (h2 hO)
  | false=>
   have h0:=tG (s:=s) (s':=s') (el:=el) (sz:=sz) hO hp
   rw [h0.1,h0.2.1,h0.2.2] at h
   exact (au h).trans (h3 hO)
theorem xo {n b:Nat} (hn:n≤1000000) (hb:b≤1000) :decide (n * b≤room∧n≤room)=true:=by
 refine decide_eq_true ⟨?_,?_⟩
 ·have :n * b≤1000000 * 1000:=Nat.mul_le_mul hn hb
  unfold room
  omega
 ·unfold room
  omega
theorem bI.GY {P:Program} {f:FuncId} {ds:aw} {el sz:Nat} {O:aj} (h:bI P f ds (cond O.isEmpty .af (.sl (.own el) sz O))) :bI P f ds (.ag false sz O):=by
 cases O with
 | nil=>exact bI.res h (fj.nil _ _) rfl
 | cons a t=>exact bI.res (r:= .sl (.own el) sz (a::t)) h (fj.sl _ _ _) rfl
end Go.Proofs.YtglbgfcegifeeaaGreat.Vm
