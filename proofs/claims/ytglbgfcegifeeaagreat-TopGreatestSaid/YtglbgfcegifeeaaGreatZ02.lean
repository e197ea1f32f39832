/- Growing a slice; what a value reads as when it is handed to a call. No condition. -/
import Derived.Test.YtglbgfcegifeeaaGreatZ01
import Derived.Laws.IdiomCopy
set_option linter.unusedVariables false
set_option linter.unusedSimpArgs false
set_option linter.unusedSectionVars false
namespace Go.Proofs.YtglbgfcegifeeaaGreat.Vm
open Go Go.RowKit
theorem p8 {p n sz:Nat} (h:p < n * sz) :p / sz < n∧p % sz < sz∧p / sz * sz+p % sz=p:=by
 have iq:0 < sz:=by
  rcases Nat.eq_zero_or_pos sz with h0 | h0
  ·subst h0; simp at h
  ·exact h0
 refine ⟨?_,Nat.mod_lt _ iq,?_⟩
 ·rw [Nat.div_lt_iff_lt_mul iq]; exact h
 ·rw [Nat.mul_comm]; exact Nat.div_add_mod p sz
def l1 (R:DV→Value→Prop) (sz:Nat) (es:aj) (us:List Value) :Prop:=
 us.length=es.length * sz∧ ∀(i j:Nat) e c,es[i]? =some e→e[j]? =some c→ ∃u,us[i * sz+j]? =some u∧R c u
theorem l1.append {R:DV→Value→Prop} {sz:Nat} {es fs:aj} {us vs:List Value} (h1:l1 R sz es us) (h2:l1 R sz fs vs) (hr: ∀e∈es,e.length=sz) :l1 R sz (es++fs) (us++vs):=by
 refine ⟨by simp [h1.1,h2.1,Nat.add_mul],fun i j e c he hc=> ?_⟩
 rw [List.getElem?_append] at he
 split at he
 ·rename_i hi
  obtain ⟨u,hu,x6⟩:=h1.2 i j e c he hc
  exact ⟨u,by rw [List.getElem?_append_left (List.getElem?_eq_some_iff.1 hu).1]; exact hu,x6⟩
 ·rename_i hi
  obtain ⟨u,hu,x6⟩:=h2.2 _ j e c he hc
  refine ⟨u,?_,x6⟩
  have h5:=Nat.mul_le_mul_right sz (show es.length≤i by omega)
  have h6:i * sz=es.length * sz+ (i - es.length) * sz:=by rw [← Nat.add_mul]; congr 1; omega
  rw [List.getElem?_append_right (by rw [h1.1]; omega),h1.1,show i * sz+j - es.length * sz=(i - es.length) * sz+j by omega]
  exact hu
section
variable {P:Program} {w0:dw} {S0:Nat→Nat→Prop} {N:Nat} {ρ:Nat→Nat×Nat} {S:Nat→Nat→Prop} {st:St} {a:Act} {w:World}
theorem fJ {b o sz:Nat} {es:aj} (bj: ∀e∈es,e.length=sz) (h: ∀i j,i < es.length→j < sz→ ∃u,w.cell? ⟨b,o+ (i * sz+j),none⟩=some u∧ ∀e c,es[i]? =some e→e[j]? =some c→aW w S c u) :
  ∃us:List Value,l1 (aW w S) sz es us∧(∀(p:Nat) u,us[p]? =some u→w.cell? ((⟨b,o,none⟩ :Addr).add p)=some u)∧
   ((∀e∈es,e.all DV.one=true)→ ∀u∈us,u.oneCell'=true):=by
 obtain ⟨us,hl,hu⟩:=yJ es.length sz _ h
 refine ⟨us,⟨hl,fun i j e c he hc=> ?_⟩,fun p u hp=> ?_,fun fp u mY=> ?_⟩
 ·have hi:=(List.getElem?_eq_some_iff.1 he).1
  have hj:j < sz:=by rw [← bj e (List.mem_of_getElem? he)]; exact (List.getElem?_eq_some_iff.1 hc).1
  obtain ⟨u,h1,h2,h3⟩:=hu i j hi hj
  exact ⟨u,h1,h3 e c he hc⟩
 ·have vo:p < es.length * sz:=by rw [← hl]; exact (List.getElem?_eq_some_iff.1 hp).1
  obtain ⟨q1,q2,q3⟩:=p8 vo
  obtain ⟨u',h1,h2,h3⟩:=hu _ _ q1 q2
  rw [q3] at h1 h2
  rw [hp] at h1
  simp only [Option.some.injEq] at h1
  subst h1
  rw [eM]; exact h2
 ·obtain ⟨p,hp,rfl⟩:=List.getElem_of_mem mY
  have vo:p < es.length * sz:=by rw [← hl]; exact hp
  obtain ⟨q1,q2,q3⟩:=p8 vo
  obtain ⟨u',h1,h2,h3⟩:=hu _ _ q1 q2
  rw [q3,List.getElem?_eq_getElem hp] at h1
  simp only [Option.some.injEq] at h1
  rw [h1]
  have hle:=bj _ (List.getElem_mem q1)
  have dZ:p % sz < es[p / sz].length:=by omega
  have :=h3 es[p / sz] (es[p / sz][p % sz]) (List.getElem?_eq_getElem q1) (List.getElem?_eq_getElem dZ)
  exact aW.one this (List.all_eq_true.1 (fp _ (List.getElem_mem q1)) _ (List.getElem_mem dZ))
theorem qW (hI:Inv w0 S0 N ρ S st a w) {sz:Nat} {y:AV} {vy:Value} (hy:aE w S ρ y vy) {news:aj} (h:elems st sz y=some news) :
  ∃ao c,vy= .slice ao news.length c∧news.length≤c∧(0 < news.length→ ∃b o,ao=some ⟨b,o,none⟩∧
   ∀i j,i < news.length→j < sz→ ∃u,w.cell? ⟨b,o+ (i * sz+j),none⟩=some u∧ ∀e c,news[i]? =some e→e[j]? =some c→aW w S c u):=by
 unfold elems at h
 split at h
 ·simp only [Option.some.injEq] at h; subst h
  simp only [aE,aW] at hy; subst hy
  exact ⟨none,0,rfl,by simp,fun h=>by simp at h⟩
 ·rename_i k bd es
  split at h
  ·rename_i iq
   subst iq
   simp only [Option.some.injEq] at h; subst h
   simp only [aE,aW] at hy
   obtain ⟨a0,b,o,cap,rfl,ha,hc,_,he⟩:=hy
   refine ⟨some a0,cap,rfl,hc,fun jT=>⟨b,o,by rw [ha (by omega)],fun i j hi hj=> ?_⟩⟩
   obtain ⟨h1,h2⟩:=gO.at es sz b o he i _ (List.getElem?_eq_getElem hi)
   obtain ⟨_,u,hu,hr⟩:=iS.at _ b _ h2 j _ (List.getElem?_eq_getElem (by omega:j < es[i].length))
   refine ⟨u,by rwa [← Nat.add_assoc],fun e c bF gF=> ?_⟩
   rw [List.getElem?_eq_getElem hi] at bF
   simp only [Option.some.injEq] at bF
   subst bF
   rw [List.getElem?_eq_getElem (by omega)] at gF
   simp only [Option.some.injEq] at gF
   subst gF; exact hr
  ·cases h
 ·rename_i k bd es
  split at h
  ·rename_i iq
   replace hy:=yC iq hy
   simp only [Option.some.injEq] at h; subst h
   simp only [aE] at hy
   rcases hy.ag with ⟨rfl,rfl⟩ | hy
   ·exact ⟨none,0,rfl,by simp,fun h=>by simp at h⟩
   simp only [aW] at hy
   obtain ⟨a0,b,o,cap,rfl,ha,hc,_,he⟩:=hy
   refine ⟨some a0,cap,rfl,hc,fun jT=>⟨b,o,by rw [ha (by omega)],fun i j hi hj=> ?_⟩⟩
   obtain ⟨h1,h2⟩:=gO.at es sz b o he i _ (List.getElem?_eq_getElem hi)
   obtain ⟨_,u,hu,hr⟩:=iS.at _ b _ h2 j _ (List.getElem?_eq_getElem (by omega:j < es[i].length))
   refine ⟨u,by rwa [← Nat.add_assoc],fun e c bF gF=> ?_⟩
   rw [List.getElem?_eq_getElem hi] at bF
   simp only [Option.some.injEq] at bF
   subst bF
   rw [List.getElem?_eq_getElem (by omega)] at gF
   simp only [Option.some.injEq] at gF
   subst gF; exact hr
  ·cases h
 ·rename_i s bd off len
  split at h
  ·rename_i el cO es aZ
   split at h
   ·rename_i hc
    obtain ⟨rfl,rfl,hle⟩:=hc
    simp only [Option.some.injEq] at h
    have hlen:news.length=len:=by subst h; simp; omega
    simp only [aE] at hy
    obtain ⟨ad,cap,rfl,hb,_,hnc,_⟩:=hy
    refine ⟨some ad,cap,by rw [hlen],by omega,fun jT=> ?_⟩
    have :=hb (.inl (by omega))
    subst this
    refine ⟨_,_,rfl,fun i j hi hj=> ?_⟩
    obtain ⟨bj,cR⟩:=hI.aT s _ aZ
    obtain ⟨cur,cS,_,cD⟩:=cR.here
    obtain ⟨u,hu,hr⟩:=cD (off+i) j (by omega) hj
    refine ⟨u,?_,fun e c he hc=> ?_⟩
    ·rw [cell_of_row w _ _ cur el (0,0) cS,← hu,Nat.add_mul,Nat.add_assoc]
    ·subst h
     rw [List.getElem?_take,if_pos (by omega),List.getElem?_drop] at he
     exact hr e c he hc
   ·cases h
  ·cases h
 ·rename_i s bd r off len
  split at h
  ·rename_i el cO es aZ
   split at h
   ·rename_i hc
    obtain ⟨rfl,rfl⟩:=hc
    simp only [Option.bind_eq_some_iff] at h
    obtain ⟨e,he,h⟩:=h
    split at h
    ·rename_i hle
     simp only [Option.some.injEq] at h
     have hlen:news.length=len:=by subst h; simp; omega
     simp only [aE] at hy
     obtain ⟨ad,cap,rfl,hb,hnc⟩:=hy
     refine ⟨some ad,cap,by rw [hlen],by omega,fun jT=> ?_⟩
     have :=hb (by omega)
     subst this
     refine ⟨_,_,rfl,fun i j hi hj=> ?_⟩
     obtain ⟨bj,cR⟩:=hI.aT s _ aZ
     obtain ⟨cur,cS,_,cD⟩:=cR.here
     have hr0:r < es.length:=(List.getElem?_eq_some_iff.1 he).1
     have jn:=(bj e (List.mem_of_getElem? he)).1
     obtain ⟨u,hu,hr⟩:=cD r (off+i) hr0 (by omega)
     obtain rfl:j=0:=by omega
     refine ⟨u,?_,fun e' c bF hc=> ?_⟩
     ·rw [cell_of_row w _ _ cur el (0,0) cS,← hu]
      congr 1
      omega
     ·subst h
      simp only [List.getElem?_map,Option.map_eq_some_iff] at bF
      obtain ⟨c0,qU,rfl⟩:=bF
      simp only [List.getElem?_cons_zero,Option.some.injEq] at hc
      subst hc
      rw [List.getElem?_take,if_pos (by omega),List.getElem?_drop] at qU
      exact hr e c0 he qU
    ·cases h
   ·cases h
  ·cases h
 ·cases h
theorem En (hI:Inv w0 S0 N ρ S st a w) {s sz i off:Nat} {el:TypeId} {es:aj} {e:aw} (aZ:st.aT s=some (.aC el sz es)) (he:es[i]? =some e) {cs:aw} {vs:List Value}
  (ij:off+cs.length≤e.length) (jo:cg w S cs vs) (fp:cs.all DV.one=true) :
  ∃cur,w.heap[(ρ s).1]? =some (.cells cur el (0,0))∧i * sz+off+cs.length≤cur.size∧
   Inv w0 S0 N ρ S (st.jJ s (.aC el sz (es.set i (aU e off cs)))) a (w.setRow (ρ s).1 (aU cur.toList (i * sz+off) vs).toArray):=by
 obtain ⟨bj,cR⟩:=hI.aT s _ aZ
 obtain ⟨cur,cS,sU,cD⟩:=cR.here
 have Fs:vs.length=cs.length:=cg.length _ _ jo
 have hi:i < es.length:=(List.getElem?_eq_some_iff.1 he).1
 have jn:=(bj e (List.mem_of_getElem? he)).1
 have sV:i * sz+off+cs.length≤cur.size:=by
  have h1:=Nat.mul_le_mul_right sz (show i+1≤(ρ s).2 by have :=cR.fits; omega)
  rw [Nat.add_mul] at h1
  omega
 have Ru:(aU e off cs).length=sz:=by
  simp only [aU,List.length_append,List.length_take,List.length_drop]
  omega
 refine ⟨cur,cS,sV,hI.jJ aZ cS ?_⟩
 have hk:Kept w (w.setRow (ρ s).1 (aU cur.toList (i * sz+off) vs).toArray) S S:=⟨fun _ _ h=>h,fun b p hb u hu=>by
  have I8:b≠(ρ s).1:=fun e=>cR.apart p (e ▸ hb)
  rw [World.cell?] at hu ⊢
  rw [setRow_other w _ b _ I8]; exact hu⟩
 refine jS (blk:=(ρ s).1) (cap:=(ρ s).2) (cur:=(aU cur.toList (i * sz+off) vs).toArray) rfl cR.base (setRow_heap w _ cur _ el _ cS) ?_ (by simpa using cR.fits) cR.len cR.apart (fun e' bF=> ?_) fun i' j e' c bF hc=> ?_
 ·simp only [aU,List.size_toArray,List.length_append,List.length_take,List.length_drop,Array.length_toList,Fs]
  omega
 ·rcases List.mem_or_eq_of_mem_set bF with bF | rfl
  ·exact bj e' bF
  ·refine ⟨Ru,?_⟩
   have h2:=(bj e (List.mem_of_getElem? he)).2
   rw [List.all_eq_true] at h2 fp ⊢
   intro c hc
   simp only [aU,List.mem_append] at hc
   rcases hc with (hc | hc) | hc
   ·exact h2 c (List.mem_of_mem_take hc)
   ·exact fp c hc
   ·exact h2 c (List.mem_of_mem_drop hc)
 ·rw [List.getElem?_toArray,gR _ _ _ (by simp [Fs]; omega)]
  rw [List.getElem?_set] at bF
  by_cases AT:i=i'
  ·subst AT
   rw [if_pos rfl,if_pos (by simpa using hi)] at bF
   simp only [Option.some.injEq] at bF
   subst bF
   rw [gR _ _ _ (by omega)] at hc
   simp only [Fs]
   split at hc
   ·rename_i Rv
    rw [if_pos (by omega),show i * sz+j - (i * sz+off)=j - off by omega]
    obtain ⟨u,hu,hr⟩:=cg.at _ _ jo _ c hc
    exact ⟨u,hu,aW.kept hk c u hr⟩
   ·rename_i Rv
    rw [if_neg (by omega)]
    obtain ⟨u,hu,hr⟩:=cD i j hi (by rw [← jn]; exact (List.getElem?_eq_some_iff.1 hc).1)
    exact ⟨u,by simpa using hu,aW.kept hk c u (hr e c he hc)⟩
  ·rw [if_neg AT] at bF
   have Gc:=(bj e' (List.mem_of_getElem? bF)).1
   have hj:j < sz:=by rw [← Gc]; exact (List.getElem?_eq_some_iff.1 hc).1
   have Rw:i' < es.length:=(List.getElem?_eq_some_iff.1 bF).1
   simp only [Fs]
   rw [if_neg (by
    intro hh
    rcases Nat.lt_or_gt_of_ne AT with h | h
    ·have h5:=Nat.mul_le_mul_right sz (show i+1≤i' by omega)
     rw [Nat.add_mul] at h5
     omega
    ·have :=pZ (n:=i) (i:=i') (j:=j) (sz:=sz) h hj
     omega)]
   obtain ⟨u,hu,hr⟩:=cD i' j Rw hj
   exact ⟨u,by simpa using hu,aW.kept hk c u (hr e' c bF hc)⟩
theorem Bd (hI:Inv w0 S0 N ρ S st a w) {T U ty e:TypeId} (hT:P.underlying T=some (.slice e)) (hs:cG P e=some 1) {x y:AV} {vx vy:Value} (hx:aE w S ρ x vx) (hy:aE w S ρ y vy) {m:Nat} {st':St} (h:qO st x y=some (m,st')) :
  ∃w1,(Builtin.copy_ #[T,U] ty #[vx,vy]).run P w= .ok (goInt m) w1∧Inv w0 S0 N ρ S st' a w1:=by
 unfold qO at h
 split at h
 ·rename_i s sz i off n news jn
  split at h
  ·rename_i el bd es aZ
   split at h
   ·rename_i heq
    subst heq
    split at h
    ·rename_i e' he
     split at h
     ·rename_i c8
      obtain ⟨ij,iU⟩:=c8
      simp only [Option.some.injEq,Prod.mk.injEq] at h
      obtain ⟨rfl,rfl⟩:=h
      obtain ⟨ao,c,rfl,hnc,p9⟩:=qW hI hy jn
      simp only [aE] at hx
      obtain ⟨ad,cap,rfl,Jc,iz⟩:=hx
      have qX:(P.info? e).map (·.size)=some 1:=hs
      by_cases h0:min news.length n=0
      ·refine ⟨w,?_,?_⟩
       ·rw [h0]
        exact run_copy_none (P:=P) w T U ty e (some ad) ao n cap news.length c hT qX h0
       ·have p':(news.take n).map (fun r=>r.headD .bn)=[]:=by
         rcases Nat.eq_zero_or_pos n with h | h
         ·simp [h]
         ·have :news.length=0:=by omega
          simp [List.eq_nil_of_length_eq_zero this]
        rw [p']
        have uA:es.set i (aU e' off [])=es:=by
         have :aU e' off []=e':=by simp [aU]
         rw [this]
         obtain ⟨dZ,Rx⟩:=List.getElem?_eq_some_iff.1 he
         rw [← Rx]
         exact List.set_getElem_self dZ
        rw [uA]
        have gn:st.jJ s (.aC el sz es)=st:=by
         cases st with
         | mk env aT=>
          simp only [St.jJ,St.mk.injEq,true_and]
          funext k
          split
          ·rename_i hk
           rw [hk]
           exact aZ.symm
          ·rfl
        rw [gn]
        exact hI
      ·obtain ⟨b,o,rfl,cD⟩:=p9 (by omega)
       have gA: ∀r∈news,r.length=1∧r.all DV.one=true:=by
        intro r hr
        have :=List.all_eq_true.1 iU r hr
        simpa using this
       have hex: ∀j,j < min news.length n→ ∃u,w.cell? ⟨b,o+j,none⟩=some u∧ ∀c,(news.take n)[j]? =some [c]→aW w S c u:=by
        intro j hj
        obtain ⟨u,hu,hr⟩:=cD j 0 (by omega) (by omega)
        refine ⟨u,by simpa using hu,fun c hc=> ?_⟩
        rw [List.getElem?_take,if_pos (by omega)] at hc
        exact hr [c] c hc rfl
       obtain ⟨us,nJ,gP⟩ : ∃us:List Value,us.length=min news.length n∧ ∀(j:Nat) (u:Value),us[j]? =some u→w.cell? ⟨b,o+j,none⟩=some u∧ ∀c,(news.take n)[j]? =some [c]→aW w S c u:=by
        refine ⟨(List.range (min news.length n)).map fun j=>if hj:j < min news.length n then (hex j hj).choose else undef,by simp,fun j u hu=> ?_⟩
        have hj:j < min news.length n:=by
         have :=(List.getElem?_eq_some_iff.1 hu).1
         simpa using this
        simp only [List.getElem?_map,List.getElem?_range hj,Option.map_some,Option.some.injEq,hj,dif_pos] at hu
        subst hu
        exact (hex j hj).choose_spec
       have jo:cg w S ((news.take n).map fun r=>r.headD .bn) us:=by
        refine cg.mk _ _ (by simp [nJ,Nat.min_comm]) fun j c u hc hu=> ?_
        simp only [List.getElem?_map,Option.map_eq_some_iff] at hc
        obtain ⟨r,hr,rfl⟩:=hc
        have hr1:=(gA r (List.mem_of_mem_take (List.mem_of_getElem? hr))).1
        match r,hr1 with
        | [c],_=>exact (gP j u hu).2 c hr
       have fp:((news.take n).map fun r=>r.headD .bn).all DV.one=true:=by
        rw [List.all_eq_true]
        intro c hc
        obtain ⟨r,hr,rfl⟩:=List.mem_map.1 hc
        obtain ⟨h1,h2⟩:=gA r (List.mem_of_mem_take hr)
        match r,h1 with
        | [c],_=>simpa using h2
       have M4:((news.take n).map fun r=>r.headD .bn).length=min news.length n:=by simp [Nat.min_comm]
       obtain ⟨cur,cS,sV,Em⟩:=En hI (off:=off) aZ he (cs:=(news.take n).map fun r=>r.headD .bn) (vs:=us) (by omega) jo fp
       rw [Jc (by omega)]
       have bU:=run_copy_row (P:=P) w T U ty e (ρ s).1 (i * sz+off) n cap ⟨b,o,none⟩ news.length c cur el us hT qX cS nJ (fun j v hv=>by rw [eM]; exact (gP j v hv).1) (by rw [nJ]; rw [M4] at sV; exact sV) (fun v hv=>by
        obtain ⟨j,hj,rfl⟩:=List.getElem_of_mem hv
        have QD:j < ((news.take n).map fun r=>r.headD .bn).length:=by omega
        obtain ⟨u,hu,hr⟩:=cg.at _ _ jo j _ (List.getElem?_eq_getElem QD)
        rw [List.getElem?_eq_getElem hj] at hu
        simp only [Option.some.injEq] at hu
        rw [hu]
        exact aW.one hr (List.all_eq_true.1 fp _ (List.getElem_mem QD)))
       rw [nJ] at bU
       refine ⟨_,bU,?_⟩
       have hw:cur.toList.take (i * sz+off)++us++cur.toList.drop (i * sz+off+min news.length n)=aU cur.toList (i * sz+off) us:=by simp [aU,nJ]
       rw [hw]
       exact Em
     ·cases h
    ·cases h
   ·cases h
  ·cases h
 ·cases h
theorem CL {s t:Nat} (h:t≤49997) :alt s t % 100000≠99999:=by
 unfold alt
 cases Nat.beq s t
 ·simp only [cond_false]; omega
 ·simp only [cond_true]; omega
theorem mZ (T ty e:TypeId) (hT:P.underlying T=some (.slice e)) {sz:Nat} (hs:cG P e=some sz) (base:Option Addr) (n c:Nat) (hn:n≤c) (ao:Option Addr) (c':Nat) :
  (Builtin.append_ #[T,T] ty #[.slice base n c,.slice ao 0 c']).run P w= .ok (.slice base n c) w:=by
 have hf:(Builtin.firstCells sz 0 (.slice ao 0 c')).run P w= .ok #[] w:=by
  cases ao<;>simp [Builtin.firstCells,loadCells,loadCellsFrom]
 cases base with
 | none=>simp [Builtin.append_,run_underlying hT,cY hs,Builtin.lenOf,hn,hf]
 | some b=>simp [Builtin.append_,run_underlying hT,cY hs,Builtin.lenOf,hn,hf,storeCells]
theorem sW (hI:Inv w0 S0 N ρ S st a w) {t q e sz k:Nat} (ht:t < N) (hp:q % 100000≠99999) {w1:World} {v:Value} {xs:List Value} {es:aj} (dh:w1.ownsRow w.heap.size e sz v k xs) (hg:w.grownBy w1 none) (hk:0 < k) (hlen:es.length=k)
  (bj: ∀e∈es,e.length=sz∧e.all DV.one=true) (hf:l1 (aW w S) sz es xs) :
  cF w0 S0 N ((st.at_ q (.aC e sz es)).put t (.ah q sz 0 k)) (a.put (some t) v) w1:=by
 obtain ⟨h1,⟨rfl,h0⟩ | ⟨g,cap,cur,rfl,ng,cS,hkc,hm,iq,Gd⟩⟩:=dh
 ·omega
 ·have fm:bJ w0.gz w w1:=⟨hg.os,hg.tape,hg.output,hg.size,fun k hk=>hg.block k (Nat.lt_of_lt_of_le (w0.lt k hk) hI.below.size) (by simp)⟩
  have hgS: ∀o,¬ S g o:=fun o ho=>by have :=hI.live _ _ ho; omega
  have hold: ∀k,k < w.heap.size→k≠g→w1.heap[k]? =w.heap[k]? :=fun k hk _=>hg.block k hk (by simp)
  have I':Kept w w1 S S:=⟨fun _ _ h=>h,fun b p hb u hu=>by
   rw [World.cell?] at hu ⊢
   rw [hold b (hI.live b p hb) (fun e=>hgS p (e ▸ hb))]; exact hu⟩
  have hx:=hI.at_ (t:=q) hp (ob:= .aC e sz es) (g:=g) (cap:=cap) (w1:=w1) fm hold (fun s o hs=>by have :=(hI.aT s o hs).lt.2.1; omega) hgS (by
   refine jS (blk:=g) (cap:=cap) (cur:=cur) (by simp) (hI.fresh ng) cS iq (by omega) hm hgS bj ?_
   intro i j e' c bF hc
   obtain ⟨u,hu,hr⟩:=hf.2 i j e' c bF hc
   refine ⟨u,?_,aW.kept I' c u hr⟩
   rw [← Gd,List.getElem?_take] at hu
   split at hu
   ·simpa using hu
   ·cases hu)
  refine ⟨_,_,hx.put ht ?_⟩
  simp only [aE,if_true]
  exact ⟨_,_,rfl,fun _=>by simp,fun _=>rfl,hkc,rfl⟩
theorem w7 (hI:Inv w0 S0 N ρ S st a w) {t T ty e sz bytes:Nat} (ht:t < N) (hT:P.underlying T=some (.slice e)) (hs:cG P e=some sz) (Rt:lu P e=some bytes) (iq:0 < sz) {z:aw}
  (hz:fC P e=some z) (wW:z.length=sz) {x y:AV} {vx vy:Value} (hx:aE w S ρ x vx) (hy:aE w S ρ y vy) {st':St} (h:eK st t e sz bytes x y=some st') :
  ∃u w1,(Builtin.append_ #[T,T] ty #[vx,vy]).run P w= .ok u w1∧cF w0 S0 N st' (a.put (some t) u) w1:=by
 unfold eK at h
 cases jn:elems st sz y with
 | none=>simp [jn] at h
 | some news=>
  simp only [jn] at h
  obtain ⟨ao,c,rfl,hnc,p9⟩:=qW hI hy jn
  split at h
  ·rename_i h0
   rw [h0]
   have key: ∀(b:Option Addr) (n cap:Nat),vx= .slice b n cap→n≤cap→(∀t want v,x≠ .w t want v)→st'=st.put t x→ ∃u w1,(Builtin.append_ #[T,T] ty #[vx,.slice ao 0 c]).run P w= .ok u w1∧cF w0 S0 N st' (a.put (some t) u) w1:=by
    intro b n cap hv hn hnw gn
    subst gn
    refine ⟨vx,w,?_,ρ,S,hI.put ht hx fun t want v he=>absurd he (hnw t want v)⟩
    subst hv
    exact mZ T ty e hT hs b n cap hn ao c
   split at h
   ·simp only [Option.some.injEq] at h
    have uK:=hx
    simp only [aE,aW] at uK
    exact key none 0 0 uK (Nat.le_refl _) (fun _ _ _ h=>by cases h) h.symm
   ·simp only [Option.some.injEq] at h
    have uK:=hx
    simp only [aE,aW] at uK
    obtain ⟨a0,b,o,cap,hv,_,hc,_⟩:=uK
    exact key _ _ _ hv hc (fun _ _ _ h=>by cases h) h.symm
   ·simp only [Option.some.injEq] at h
    have uK:=hx
    simp only [aE,aW] at uK
    rcases uK with ⟨hv,_⟩ | ⟨a0,b,o,cap,hv,_,hc,_⟩
    ·exact key _ _ _ hv (Nat.le_refl _) (fun _ _ _ h=>by cases h) h.symm
    ·exact key _ _ _ hv hc (fun _ _ _ h=>by cases h) h.symm
   ·simp only [Option.some.injEq] at h
    have uK:=hx
    simp only [aE] at uK
    obtain ⟨b,cap,hv,_,_,hc,_⟩:=uK
    exact key _ _ _ hv hc (fun _ _ _ h=>by cases h) h.symm
   ·cases h
  ·rename_i h0
   have jT:0 < news.length:=by omega
   obtain ⟨b,o,rfl,jR⟩:=p9 jT
   split at h
   ·rename_i iU
    have bj: ∀e∈news,e.length=sz∧e.all DV.one=true:=by
     intro e' bF
     have :=List.all_eq_true.1 iU e' bF
     simpa using this
    obtain ⟨us,g9,gP,fp⟩:=fJ (fun e' bF=>(bj e' bF).1) jR
    have yR:=fp fun e' bF=>(bj e' bF).2
    unfold fC at hz
    cases hi:P.info? e with
    | none=>simp [hi] at hz
    | some it=>
     cases pY:it.zero with
     | none=>simp [hi,pY] at hz
     | some zv=>
      simp only [hi,pY] at hz
      have fW:it.size=sz:=by simpa [cG,hi] using hs
      have kD:it.bytes=bytes:=by simpa [lu,hi] using Rt
      have Ry:zv.cells.size=sz:=by
       have :=(ju hz).1
       simp only [Array.length_toList] at this
       omega
      split at h
      ·
       split at h
       ·rename_i qY
        simp only [Option.some.injEq] at h
        subst h
        simp only [aE,aW] at hx
        subst hx
        simp only [room] at qY
        obtain ⟨v',w1,hr,dh,Ge,p'⟩:=run_append_own (P:=P) w w.heap.size T ty e it zv sz bytes hT hi pY fW kD Ry iq (.slice none 0 0) 0 [] (World.ownsRow_nil _ _ _ _) ⟨b,o,none⟩ news.length c us g9.1 gP yR
         (by simp only [maxLen]; omega) (by simp only [Nat.zero_add]; omega) (Nat.le_refl _)
        simp only [Nat.zero_add,List.nil_append,Value.ownBlock] at dh Ge
        exact ⟨v',w1,hr,sW hI ht (hI.fl ht) dh Ge jT rfl bj g9⟩
       ·cases h
      ·
       rename_i bd es
       split at h
       ·rename_i qY
        obtain ⟨rfl,uH,rW,oi⟩:=qY
        simp only [Option.some.injEq] at h
        subst h
        simp only [aE,aW] at hx
        obtain ⟨a2,b2,o2,cap,rfl,QH,iz,pX,he⟩:=hx
        have sX:=pX trivial
        subst sX
        have iV: ∀e∈es,e.length=bd∧e.all DV.one=true:=by
         intro e' bF
         have :=List.all_eq_true.1 oi e' bF
         simpa using this
        obtain ⟨Be,gS,Eo,_⟩:=fJ (w:=w) (S:=S) (b:=b2) (o:=o2) (fun e' bF=>(iV e' bF).1) (fun i j hi hj=>by
         obtain ⟨h1,h2⟩:=gO.at es bd b2 o2 he i _ (List.getElem?_eq_getElem hi)
         obtain ⟨_,u,hu,hr⟩:=iS.at _ b2 _ h2 j _ (List.getElem?_eq_getElem (by omega:j < es[i].length))
         refine ⟨u,by rwa [← Nat.add_assoc],fun e c bF gF=> ?_⟩
         rw [List.getElem?_eq_getElem hi] at bF
         simp only [Option.some.injEq] at bF
         subst bF
         rw [List.getElem?_eq_getElem (by omega)] at gF
         simp only [Option.some.injEq] at gF
         subst gF; exact hr)
        simp only [room,List.length_append] at uH rW
        obtain ⟨v',w1,hr,dh,Ge⟩:=run_append_arg_grows (P:=P) w T ty e it zv bd bytes hT hi pY fW kD Ry iq a2 es.length es.length Be gS.1 (fun j u hu=>by
          have hj:=(List.getElem?_eq_some_iff.1 hu).1
          rw [gS.1] at hj
          rw [QH (by intro h0; rw [h0] at hj; simp at hj)]
          exact Eo j u hu) ⟨b,o,none⟩ news.length c us g9.1 gP
         (by omega) (by simp only [maxLen]; omega) (by omega)
        refine ⟨v',w1,hr,?_⟩
        rw [← List.length_append] at dh
        exact sW hI ht (hI.fl ht) dh Ge (by simp; omega) rfl (fun e' bF=>by
         rcases List.mem_append.1 bF with bF | bF
         ·exact iV e' bF
         ·exact bj e' bF) (gS.append g9 fun e' bF=>(iV e' bF).1)
       ·cases h
      ·
       rename_i bd es
       split at h
       ·rename_i qY
        obtain ⟨rfl,uH,rW,oi⟩:=qY
        simp only [Option.some.injEq] at h
        subst h
        simp only [aE] at hx
        rcases hx.ag with ⟨rfl,rfl⟩ | hx
        ·simp only [List.nil_append,room] at uH rW ⊢
         obtain ⟨v',w1,hr,dh,Ge,p'⟩:=run_append_own (P:=P) w w.heap.size T ty e it zv bd bytes hT hi pY fW kD Ry iq (.slice none 0 0) 0 [] (World.ownsRow_nil _ _ _ _) ⟨b,o,none⟩ news.length c us g9.1 gP yR
          (by simp only [maxLen]; omega) (by simp only [Nat.zero_add]; omega) (Nat.le_refl _)
         simp only [Nat.zero_add,List.nil_append,Value.ownBlock] at dh Ge
         exact ⟨v',w1,hr,sW hI ht (hI.fl ht) dh Ge jT rfl bj g9⟩
        simp only [if_true,aW] at hx
        obtain ⟨a2,b2,o2,cap,rfl,QH,iz,pX,he⟩:=hx
        have sX:=pX trivial
        subst sX
        have iV: ∀e∈es,e.length=bd∧e.all DV.one=true:=by
         intro e' bF
         have :=List.all_eq_true.1 oi e' bF
         simpa using this
        obtain ⟨Be,gS,Eo,_⟩:=fJ (w:=w) (S:=S) (b:=b2) (o:=o2) (fun e' bF=>(iV e' bF).1) (fun i j hi hj=>by
         obtain ⟨h1,h2⟩:=gO.at es bd b2 o2 he i _ (List.getElem?_eq_getElem hi)
         obtain ⟨_,u,hu,hr⟩:=iS.at _ b2 _ h2 j _ (List.getElem?_eq_getElem (by omega:j < es[i].length))
         refine ⟨u,by rwa [← Nat.add_assoc],fun e c bF gF=> ?_⟩
         rw [List.getElem?_eq_getElem hi] at bF
         simp only [Option.some.injEq] at bF
         subst bF
         rw [List.getElem?_eq_getElem (by omega)] at gF
         simp only [Option.some.injEq] at gF
         subst gF; exact hr)
        simp only [room,List.length_append] at uH rW
        obtain ⟨v',w1,hr,dh,Ge⟩:=run_append_arg_grows (P:=P) w T ty e it zv bd bytes hT hi pY fW kD Ry iq a2 es.length es.length Be gS.1 (fun j u hu=>by
          have hj:=(List.getElem?_eq_some_iff.1 hu).1
          rw [gS.1] at hj
          rw [QH (by intro h0; rw [h0] at hj; simp at hj)]
          exact Eo j u hu) ⟨b,o,none⟩ news.length c us g9.1 gP
         (by omega) (by simp only [maxLen]; omega) (by omega)
        refine ⟨v',w1,hr,?_⟩
        rw [← List.length_append] at dh
        exact sW hI ht (hI.fl ht) dh Ge (by simp; omega) rfl (fun e' bF=>by
         rcases List.mem_append.1 bF with bF | bF
         ·exact iV e' bF
         ·exact bj e' bF) (gS.append g9 fun e' bF=>(iV e' bF).1)
       ·cases h
      ·
       rename_i s bd off len
       split at h
       ·rename_i DW cO es aZ
        split at h
        ·rename_i qY
         obtain ⟨rfl,rfl,rfl,rfl,rfl,uH,rW⟩:=qY
         simp only [Option.some.injEq] at h
         subst h
         simp only [aE] at hx
         obtain ⟨ad,cap,rfl,hb,iz,hlc,_⟩:=hx
         have sX:=iz trivial
         have Jc:=hb (.inr trivial)
         subst Jc
         obtain ⟨iV,cR⟩:=hI.aT s _ aZ
         obtain ⟨cur,cS,sU,cD⟩:=cR.here
         simp only [Nat.zero_mul] at *
         obtain ⟨Be,gS,Eo,af8⟩:=fJ (w:=w) (S:=S) (b:=(ρ s).1) (o:=0) (fun e' bF=>(iV e' bF).1) (fun i j hi hj=>by
          obtain ⟨u,hu,hr⟩:=cD i j hi hj
          exact ⟨u,by rw [cell_of_row w _ _ cur _ (0,0) cS,Nat.zero_add]; exact hu,hr⟩)
         have Gf: ∀e∈es++news,e.length=cO∧e.all DV.one=true:=fun e' bF=>by
          rcases List.mem_append.1 bF with bF | bF
          ·exact iV e' bF
          ·exact bj e' bF
         have Gg:=gS.append g9 fun e' bF=>(iV e' bF).1
         simp only [room,List.length_append] at uH rW
         by_cases ij:es.length+news.length≤cap
         ·
          have Gd:cur.toList.take (es.length * cO)=Be:=by
           apply List.ext_getElem?
           intro p
           rw [List.getElem?_take]
           split
           ·rename_i hp
            obtain ⟨q1,q2,q3⟩:=p8 hp
            have Rz:p < Be.length:=by rw [gS.1]; exact hp
            have :=Eo p _ (List.getElem?_eq_getElem Rz)
            rw [eM,Nat.zero_add,cell_of_row w _ _ cur _ (0,0) cS] at this
            rw [List.getElem?_eq_getElem Rz,← this]
            simp
           ·rename_i hp
            rw [List.getElem?_eq_none (by rw [gS.1]; omega)]
          have sV:es.length * it.size+us.length≤cur.size:=by
           rw [fW,g9.1,sU,← sX,← Nat.add_mul]
           exact Nat.mul_le_mul_right _ ij
          have hr:=run_append_room (P:=P) w T ty DW it hT hi (ρ s).1 es.length cap cur cS ⟨b,o,none⟩ news.length c us (by rw [fW]; exact g9.1) gP yR ij sV
          rw [fW] at hr sV
          rw [Gd] at hr
          refine ⟨_,_,hr,?_⟩
          have hxx:=(hI.drop s).at_ (t:=alt s t) (CL (by have :=hI.small; omega)) (ob:= .aC DW cO (es++news)) (g:=(ρ s).1) (cap:=cap) (w1:=w.setRow (ρ s).1 (Be++us++cur.toList.drop (es.length * cO+us.length)).toArray)
           ⟨rfl,rfl,rfl,by simp,fun k hk=>setRow_other w _ k _ (fun e=>cR.base (e ▸ hk))⟩ (fun k hk hkg=>setRow_other w _ k _ hkg) (fun n o' hn he=>by
            simp only [St.drop] at hn
            split at hn
            ·cases hn
            ·rename_i cu
             exact cu (hI.apart n s o' _ hn aZ he)) cR.apart (by
            refine jS (blk:=(ρ s).1) (cap:=cap) (cur:=(Be++us++cur.toList.drop (es.length * cO+us.length)).toArray) (by simp) cR.base (setRow_heap w _ cur _ _ _ cS) ?_ (by simpa using ij) (by rw [sX]; exact cR.len) cR.apart Gf ?_
            ·simp only [List.size_toArray,List.length_append,List.length_drop,Array.length_toList,gS.1]
             rw [sX,← sU]
             omega
            ·intro i j e' c' bF gF
             obtain ⟨u,hu,uz⟩:=Gg.2 i j e' c' bF gF
             refine ⟨u,?_,aW.kept ⟨fun _ _ h=>h,fun b' p rX u' g7=> ?_⟩ c' u uz⟩
             ·rw [List.getElem?_toArray,List.getElem?_append_left (List.getElem?_eq_some_iff.1 hu).1]
              exact hu
             ·rw [World.cell?] at g7 ⊢
              rw [setRow_other w _ b' _ fun e=>cR.apart p (by rw [← e]; exact rX)]; exact g7)
          refine ⟨_,_,hxx.put ht ?_⟩
          simp only [aE,if_true]
          exact ⟨⟨(ρ s).1,0,none⟩,cap,by simp,fun _=>by simp,fun _=>rfl,by simpa using ij,rfl⟩
         ·obtain ⟨v',w1,hr,dh,Ge⟩:=run_append_arg_grows (P:=P) w T ty DW it zv cO bytes hT hi pY fW kD Ry iq ⟨(ρ s).1,0,none⟩ es.length cap Be gS.1 Eo ⟨b,o,none⟩ news.length c us g9.1 gP
           (by omega) (by simp only [maxLen]; omega) (by omega)
          refine ⟨v',w1,hr,?_⟩
          rw [← List.length_append] at dh
          exact sW (hI.drop s) ht (CL (by have :=hI.small; omega)) dh Ge (by simp; omega) rfl Gf Gg
        ·cases h
       ·cases h
      ·cases h
   ·cases h
end
theorem jU {α β:Type} {f:α→Option β} {l:List α} {r:List β} (h:l.mapM f=some r) :r.length=l.length∧ ∀(i:Nat) (x:α) (y:β),l[i]? =some x→r[i]? =some y→f x=some y:=by
 refine ⟨mapM_some_length h,fun i x y hx hy=> ?_⟩
 have :=mapM_some_get h i x hx
 rw [this,hy]
theorem rY: ∀(l:List AV) (s:Nat) (c:AV),c∈l→c.has s=true→eJ s l=true
 | [],s,c,h,_=>by cases h
 | x::l,s,c,h,hc=>by
  simp only [eJ,Bool.or_eq_true]
  rcases List.mem_cons.1 h with rfl | h
  ·exact .inl hc
  ·exact .inr (rY l s c h hc)
section
variable {P:Program} {w0:dw} {S0:Nat→Nat→Prop} {N:Nat} {ρ:Nat→Nat×Nat} {S:Nat→Nat→Prop} {st:St} {a:Act} {w:World}
theorem aW.M5 {w:World} {S:Nat→Nat→Prop} {k:SK} {sz:Nat} {es:aj} {v:Value} (h:aW w S (.sl k sz es) v) :aW w S (.sl k sz (es.map fun e=>e.map cellS)) v:=by
 simp only [aW,List.length_map] at h ⊢
 obtain ⟨a,b,o,cap,h1,h0,h2,h3,h4⟩:=h
 refine ⟨a,b,o,cap,h1,h0,h2,h3,gO.mk _ _ _ _ fun i e he=> ?_⟩
 obtain ⟨e0,uB,rfl⟩:=Option.map_eq_some_iff.1 (by rw [List.getElem?_map] at he; exact he)
 obtain ⟨g1,g2⟩:=gO.at _ _ _ _ h4 i e0 uB
 refine ⟨by rw [List.length_map]; exact g1,iS.mk _ _ _ fun j c hc=> ?_⟩
 obtain ⟨c0,qU,rfl⟩:=Option.map_eq_some_iff.1 (by rw [List.getElem?_map] at hc; exact hc)
 obtain ⟨k1,u,k2,k3⟩:=iS.at _ _ _ g2 j c0 qU
 exact ⟨k1,u,k2,fX k3⟩
theorem iW (hI:Inv w0 S0 N ρ S st a w) {S':Nat→Nat→Prop} {C:Nat→Prop} (hS: ∀b o,S b o→S' b o) (hC: ∀s,C s→ ∀o,st.aT s=some o→ ∀p,S' (ρ s).1 p)
  (Gh: ∀s el sz es,C s→st.aT s=some (.mix el sz es)→ ∀e∈es,∀c∈e,∀s',c.has s'=true→C s') :
  ∀(n:Nat) (v:AV) (x:DV) (u:Value),bp st n v=some x→aE w S ρ v u→(∀s,v.has s=true→C s)→aW w S' x u:=by
 have hk:Kept w w S S':=⟨hS,fun _ _ _ _ h=>h⟩
 intro n
 induction n with
 | zero=>
  intro v x u h hr hs
  cases v<;>simp only [bp,Option.some.injEq,reduceCtorEq] at h
  subst h
  exact aW.kept hk _ _ (by simpa only [aE] using hr)
 | succ n ih=>
  have ihL: ∀(l:List AV) (r:aw) (us:List Value),l.mapM (bp st n)=some r→aS w S ρ l us→(∀s,eJ s l=true→C s)→cg w S' r us:=by
   intro l r us hm hl hs
   obtain ⟨h1,h2⟩:=jU hm
   refine cg.mk _ _ (by rw [h1]; exact aS.length _ _ hl) fun i y u hy hu=> ?_
   have hi:i < l.length:=by rw [← h1]; exact (List.getElem?_eq_some_iff.1 hy).1
   obtain ⟨u',g7,uz⟩:=aS.at _ _ hl i _ (List.getElem?_eq_getElem hi)
   rw [hu] at g7
   simp only [Option.some.injEq] at g7
   subst g7
   exact ih _ y u (h2 i _ y (List.getElem?_eq_getElem hi) hy) uz fun s dp=>hs s (rY l s _ (List.getElem_mem hi) dp)
  intro v x u h hr hs
  cases v with
  | d y=>
   simp only [bp,Option.some.injEq] at h
   subst h
   exact aW.kept hk _ _ (by simpa only [aE] using hr)
  | undef=>simp [bp] at h
  | w=>simp [bp] at h
  | func f cs=>
   simp only [bp,Option.map_eq_some_iff] at h
   obtain ⟨r,hm,rfl⟩:=h
   simp only [aE] at hr
   obtain ⟨us,rfl,hl⟩:=hr
   simp only [aW]
   exact ⟨us,rfl,ihL cs r us hm hl fun s dp=>hs s (by simpa only [AV.has] using dp)⟩
  | agg cs=>
   simp only [bp,Option.map_eq_some_iff] at h
   obtain ⟨r,hm,rfl⟩:=h
   simp only [aE] at hr
   obtain ⟨us,rfl,hl⟩:=hr
   simp only [aW]
   exact ⟨us,rfl,ihL cs r us hm hl fun s dp=>hs s (by simpa only [AV.has] using dp)⟩
  | tuple cs=>
   simp only [bp,Option.map_eq_some_iff] at h
   obtain ⟨r,hm,rfl⟩:=h
   simp only [aE] at hr
   obtain ⟨us,rfl,hl⟩:=hr
   simp only [aW]
   exact ⟨us,rfl,ihL cs r us hm hl fun s dp=>hs s (by simpa only [AV.has] using dp)⟩
  | mA s sz r off len=>
   have M6:=hs s (by simp [AV.has])
   simp only [bp] at h
   simp only [aE] at hr
   obtain ⟨ad,cap,rfl,hb,hlc⟩:=hr
   split at h
   ·rename_i el bd es aZ
    have fD:=hI.aT s _ aZ
    have M7:=hC s M6 _ aZ
    split at h
    ·rename_i heq
     subst heq
     simp only [Option.bind_eq_some_iff] at h
     obtain ⟨e,he,h⟩:=h
     split at h
     ·rename_i hle
      simp only [Option.some.injEq] at h
      subst h
      obtain ⟨bj,cR⟩:=fD
      obtain ⟨cur,cS,_,cD⟩:=cR.here
      have jn:=(bj e (List.mem_of_getElem? he)).1
      have hr0:r < es.length:=(List.getElem?_eq_some_iff.1 he).1
      have hlen:(((e.drop off).take len).map fun c=>[c]).length=len:=by simp; omega
      simp only [aW]
      refine ⟨ad,(ρ s).1,r * sz+off,cap,by rw [hlen],fun h0=>hb (by omega),by omega,(fun h=>by cases h),gO.mk _ _ _ _ fun i e' bF=> ?_⟩
      simp only [List.getElem?_map,Option.map_eq_some_iff] at bF
      obtain ⟨c,hc,rfl⟩:=bF
      rw [List.getElem?_take] at hc
      split at hc
      ·rename_i hi
       rw [List.getElem?_drop] at hc
       refine ⟨rfl,iS.mk _ _ _ fun j c' gF=> ?_⟩
       cases j with
       | zero=>
        simp only [List.getElem?_cons_zero,Option.some.injEq] at gF
        subst gF
        refine ⟨M7 _,?_⟩
        obtain ⟨u,hu,hr⟩:=cD r (off+i) hr0 (by omega)
        refine ⟨u,?_,aW.kept hk _ _ (hr e c he hc)⟩
        rw [cell_of_row w _ _ cur el (0,0) cS,← hu]
        congr 1
        omega
       | succ j=>simp at gF
      ·cases hc
     ·cases h
    ·cases h
   ·cases h
  | ah s sz off len=>
   have M6:=hs s (by simp [AV.has])
   simp only [bp] at h
   simp only [aE] at hr
   obtain ⟨ad,cap,rfl,hb,_,hlc,uA⟩:=hr
   cases aZ:st.aT s with
   | none=>simp [aZ] at h
   | some o=>
    have fD:=hI.aT s o aZ
    have M7:=hC s M6 o aZ
    obtain ⟨b,oo,sp⟩:=ad
    simp only at uA
    subst uA
    cases o with
    | aC el bd es=>
     simp only [aZ] at h
     split at h
     ·rename_i hc
      obtain ⟨rfl,hle⟩:=hc
      simp only [Option.some.injEq] at h
      subst h
      have hlen:((es.drop off).take len).length=len:=by simp; omega
      simp only [aW]
      refine ⟨⟨b,oo,none⟩,b,oo,cap,by rw [hlen],fun _=>rfl,by omega,(fun h=>by cases h),gO.mk _ _ _ _ fun i e he=> ?_⟩
      have hi:i < len:=by rw [← hlen]; exact (List.getElem?_eq_some_iff.1 he).1
      have heq:=hb (.inl (by omega))
      simp only [Addr.mk.injEq] at heq
      obtain ⟨rfl,rfl,_⟩:=heq
      rw [List.getElem?_take,if_pos hi,List.getElem?_drop] at he
      obtain ⟨bj,cR⟩:=fD
      obtain ⟨cur,cS,_,cD⟩:=cR.here
      have jn:=(bj e (List.mem_of_getElem? he)).1
      refine ⟨jn,iS.mk _ _ _ fun j c hc=>⟨M7 _,?_⟩⟩
      obtain ⟨u,hu,hr⟩:=cD (off+i) j (by omega) (by rw [← jn]; exact (List.getElem?_eq_some_iff.1 hc).1)
      refine ⟨u,?_,aW.kept hk _ _ (hr e c he hc)⟩
      rw [cell_of_row w _ _ cur el (0,0) cS,← hu,Nat.add_mul]
     ·cases h
    | mix el bd es=>
     simp only [aZ] at h
     split at h
     ·rename_i hc
      obtain ⟨rfl,hle⟩:=hc
      simp only [Option.map_eq_some_iff] at h
      obtain ⟨rs,hm,rfl⟩:=h
      obtain ⟨h1,h2⟩:=jU hm
      have hlen:rs.length=len:=by rw [h1]; simp; omega
      simp only [aW]
      refine ⟨⟨b,oo,none⟩,b,oo,cap,by rw [hlen],fun _=>rfl,by omega,(fun h=>by cases h),gO.mk _ _ _ _ fun i r QI=> ?_⟩
      have hi:i < len:=by rw [← hlen]; exact (List.getElem?_eq_some_iff.1 QI).1
      have heq:=hb (.inl (by omega))
      simp only [Addr.mk.injEq] at heq
      obtain ⟨rfl,rfl,_⟩:=heq
      have he:es[off+i]? =some (es[off+i]'(by omega)):=List.getElem?_eq_getElem (by omega)
      have w8:=h2 i _ r (by rw [List.getElem?_take,if_pos hi,List.getElem?_drop]; exact he) QI
      obtain ⟨bj,cR⟩:=fD
      obtain ⟨cur,cS,_,cD⟩:=cR.here
      generalize es[off+i]'(by omega)=e at he w8
      have jn:=(bj e (List.mem_of_getElem? he)).1
      obtain ⟨g1,g2⟩:=jU w8
      refine ⟨by omega,iS.mk _ _ _ fun j c hc=>⟨M7 _,?_⟩⟩
      have hj:j < sz:=by rw [← jn,← g1]; exact (List.getElem?_eq_some_iff.1 hc).1
      obtain ⟨u,hu,hr⟩:=cD (off+i) j (by omega) hj
      have M8:e[j]? =some (e[j]'(by omega)):=List.getElem?_eq_getElem (by omega)
      obtain ⟨x,hx,rfl⟩:=Option.map_eq_some_iff.1 (g2 j _ c M8 hc)
      refine ⟨u,?_,fX (ih _ x u hx (hr e _ he M8) fun s' dp=> ?_)⟩
      ·rw [cell_of_row w _ _ cur el (0,0) cS,← hu,Nat.add_mul]
      ·exact Gh s el sz es M6 aZ e (List.mem_of_getElem? he) _ (List.mem_of_getElem? M8) s' dp
     ·cases h
  | ptr s sz i off=>
   have M6:=hs s (by simp [AV.has])
   simp only [bp] at h
   simp only [aE] at hr
   subst hr
   cases aZ:st.aT s with
   | none=>simp [aZ] at h
   | some o=>
    have fD:=hI.aT s o aZ
    have M7:=hC s M6 o aZ
    cases o with
    | aC el bd es=>
     simp only [aZ] at h
     split at h
     ·rename_i hc
      subst hc
      simp only [Option.map_eq_some_iff] at h
      obtain ⟨e,he,rfl⟩:=h
      obtain ⟨bj,cR⟩:=fD
      obtain ⟨cur,cS,_,cD⟩:=cR.here
      have jn:=(bj e (List.mem_of_getElem? he)).1
      simp only [aW]
      refine ⟨(ρ s).1,i * sz,rfl,iS.mk _ _ _ fun j c hc=>⟨M7 _,?_⟩⟩
      obtain ⟨u,hu,hr⟩:=cD i j (List.getElem?_eq_some_iff.1 he).1 (by rw [← jn]; exact (List.getElem?_eq_some_iff.1 hc).1)
      exact ⟨u,by rw [cell_of_row w _ _ cur el (0,0) cS]; exact hu,aW.kept hk _ _ (hr e c he hc)⟩
     ·cases h
    | mix el bd es=>
     simp only [aZ] at h
     split at h
     ·rename_i hc
      subst hc
      cases he:es[i]? with
      | none=>simp [he] at h
      | some e=>
       simp only [he,Option.bind_some,Option.map_eq_some_iff] at h
       obtain ⟨r,w8,rfl⟩:=h
       obtain ⟨bj,cR⟩:=fD
       obtain ⟨cur,cS,_,cD⟩:=cR.here
       have jn:=(bj e (List.mem_of_getElem? he)).1
       obtain ⟨g1,g2⟩:=jU w8
       simp only [aW]
       refine ⟨(ρ s).1,i * sz,rfl,iS.mk _ _ _ fun j c hc=>⟨M7 _,?_⟩⟩
       have hj:j < sz:=by rw [← jn,← g1]; exact (List.getElem?_eq_some_iff.1 hc).1
       obtain ⟨u,hu,hr⟩:=cD i j (List.getElem?_eq_some_iff.1 he).1 hj
       have M8:e[j]? =some (e[j]'(by omega)):=List.getElem?_eq_getElem (by omega)
       obtain ⟨x,hx,rfl⟩:=Option.map_eq_some_iff.1 (g2 j _ c M8 hc)
       refine ⟨u,?_,fX (ih _ x u hx (hr e _ he M8) fun s' dp=> ?_)⟩
       ·rw [cell_of_row w _ _ cur el (0,0) cS]; exact hu
       ·exact Gh s el sz es M6 aZ e (List.mem_of_getElem? he) _ (List.mem_of_getElem? M8) s' dp
     ·cases h
def uL (st:St) (ρ:Nat→Nat×Nat) (S:Nat→Nat→Prop) :Nat→Nat→Prop:=fun b p=>S b p∨ ∃s o,st.aT s=some o∧b=(ρ s).1
theorem snap_all (hI:Inv w0 S0 N ρ S st a w) {v:AV} {x:DV} {u:Value} (h:snap st v=some x) (hr:aE w S ρ v u) :aW w (uL st ρ S) x u:=
 iW hI (C:=fun _=>True) (fun _ _ h=> .inl h) (fun s _ o ho p=> .inr ⟨s,o,ho,rfl⟩) (fun _ _ _ _ _ _ _ _ _ _ _ _=>trivial) 6 v x u h hr fun _ _=>trivial
mutual
theorem qZ: ∀(v:AV),v.eV=false→ ∀s,v.has s=false
 | .d _,_,s=>rfl
 | .ah _ _ _ _,h,s=>by simp [AV.eV] at h
 | .ptr _ _ _ _,h,s=>by simp [AV.eV] at h
 | .mA _ _ _ _ _,h,s=>by simp [AV.eV] at h
 | .undef,_,s=>rfl
 | .w _ _ _,h,s=>by simp [AV.eV] at h
 | .func _ cs,h,s=>by simp only [AV.eV] at h; simp only [AV.has]; exact iB cs h s
 | .agg cs,h,s=>by simp only [AV.eV] at h; simp only [AV.has]; exact iB cs h s
 | .tuple cs,h,s=>by simp only [AV.eV] at h; simp only [AV.has]; exact iB cs h s
theorem iB: ∀(l:List AV),ba l=false→ ∀s,eJ s l=false
 | [],_,s=>rfl
 | v::l,h,s=>by
  simp only [ba,Bool.or_eq_false_iff] at h
  simp only [eJ,Bool.or_eq_false_iff]
  exact ⟨qZ v h.1 s,iB l h.2 s⟩
end
theorem qa (hI:Inv w0 S0 N ρ S st a w) {v:AV} {x:DV} {u:Value} (h:snap st v=some x) (hr:aE w S ρ v u) (hs:v.eV=false) :aW w S x u:=
 iW hI (C:=fun _=>False) (fun _ _ h=>h) (fun s h=>h.elim) (fun _ _ _ _ h=>h.elim) 6 v x u h hr fun s h=>by rw [qZ v hs s] at h; cases h
mutual
theorem mG {w w':World} {S S':Nat→Nat→Prop} : ∀(x:DV) (v:Value),x.plain=true→x.dX=false→aW w S x v→aW w' S' x v
 | .int _ _,_,_,_,h=>by simpa only [aW] using h
 | .bool _,_,_,_,h=>by simpa only [aW] using h
 | .af,_,_,_,h=>by simpa only [aW] using h
 | .bn,_,_,_,h=>by simpa only [aW] using h
 | .fN,_,_,_,h=>by simpa only [aW] using h
 | .sl (.own _) _ _,_,_,h,_=>by simp [DV.dX] at h
 | .sl (.cT _) _ _,_,_,h,_=>by simp [DV.dX] at h
 | .sl .ro _ _,_,h,_,_=>by simp [DV.plain] at h
 | .sl .tight _ _,_,h,_,_=>by simp [DV.plain] at h
 | .aI _ _,_,h,_,_=>by simp [DV.plain] at h
 | .func f cs,v,h,_,hr=>by
  simp only [DV.plain] at h
  simp only [aW] at hr ⊢
  obtain ⟨us,rfl,hl⟩:=hr
  exact ⟨us,rfl,kE cs us h hl⟩
 | .agg cs,v,h,_,hr=>by
  simp only [DV.plain] at h
  simp only [aW] at hr ⊢
  obtain ⟨us,rfl,hl⟩:=hr
  exact ⟨us,rfl,kE cs us h hl⟩
 | .tuple cs,v,h,_,hr=>by
  simp only [DV.plain] at h
  simp only [aW] at hr ⊢
  obtain ⟨us,rfl,hl⟩:=hr
  exact ⟨us,rfl,kE cs us h hl⟩
theorem kE {w w':World} {S S':Nat→Nat→Prop} : ∀(l:aw) (us:List Value),iK l=true→cg w S l us→cg w' S' l us
 | [],us,_,h=>by simpa only [cg] using h
 | x::l,us,h,hr=>by
  simp only [iK,Bool.and_eq_true,Bool.not_eq_true'] at h
  simp only [cg] at hr ⊢
  obtain ⟨u,oj,rfl,h1,h2⟩:=hr
  exact ⟨u,oj,rfl,mG x u h.1.1 h.1.2 h1,kE l oj h.2 h2⟩
end
theorem sY: ∀(es:aj),jr es=true→ ∀e∈es,iK e=true
 | [],_,e,he=>by cases he
 | x::es,h,e,he=>by
  simp only [jr,Bool.and_eq_true] at h
  rcases List.mem_cons.1 he with rfl | he
  ·exact h.1
  ·exact sY es h.2 e he
theorem qb: ∀(l:aw),iK l=true→ ∀x∈l,x.plain=true∧x.dX=false
 | [],_,x,hx=>by cases hx
 | y::l,h,x,hx=>by
  simp only [iK,Bool.and_eq_true,Bool.not_eq_true'] at h
  rcases List.mem_cons.1 hx with rfl | hx
  ·exact h.1
  ·exact qb l h.2 x hx
def iX (B:Nat→Prop) (w:World) (S:Nat→Nat→Prop) (el sz:Nat) (es:aj) (v:Value) (g:Nat) :Prop:=
 ∃cap,v= .slice (some ⟨g,0,none⟩) es.length cap∧(∀e∈es,e.length=sz∧e.all DV.one=true)∧
  oS B w S g cap el sz es.length fun i j u=> ∀e c,es[i]? =some e→e[j]? =some c→aW w S c u
def iY (B:Nat→Prop) (w:World) (S:Nat→Nat→Prop) :aw→List Value→List Nat→Prop
 | [],vs,gs=>vs=[]∧gs=[]
 | .sl (.own el) sz es::rs,vs,gs=> ∃v eo g oW,vs=v::eo∧gs=g::oW∧iX B w S el sz es v g∧g ∉ oW∧iY B w S rs eo oW
 | r::rs,vs,gs=> ∃v eo,vs=v::eo∧aW w S r v∧iY B w S rs eo gs
def l2 (B:Nat→Prop) (w:World) (S:Nat→Nat→Prop) :aj→List (List Value)→List Nat→Prop
 | [],k8,hs=>k8=[]∧hs=[]
 | e::es,k8,hs=> ∃us Ep h1 h2,k8=us::Ep∧hs=h1++h2∧iY B w S e us h1∧l2 B w S es Ep h2∧ ∀x∈h1,x ∉ h2
def oX (B:Nat→Prop) (w:World) (S:Nat→Nat→Prop) (el sz:Nat) (es:aj) (v:Value) (g:Nat) (hs:List Nat) :Prop:=
 ∃cap k8,v= .slice (some ⟨g,0,none⟩) es.length cap∧(∀e∈es,e.length=sz∧e.all DV.one=true)∧
  oS B w S g cap el sz es.length (fun i j u=> ∀us u',k8[i]? =some us→us[j]? =some u'→u'=u)∧l2 B w S es k8 hs∧g ∉ hs
def cw (B:Nat→Prop) (w:World) (S:Nat→Nat→Prop) :aw→List Value→List Nat→Prop
 | [],vs,gs=>vs=[]∧gs=[]
 | .sl (.own el) sz es::rs,vs,gs=> ∃v eo g oW,vs=v::eo∧gs=g::oW∧iX B w S el sz es v g∧g ∉ oW∧cw B w S rs eo oW
 | .sl (.cT el) sz es::rs,vs,gs=> ∃v eo g hs oW,vs=v::eo∧gs=g::(hs++oW)∧oX B w S el sz es v g hs∧g ∉ oW∧(∀x∈hs,x ∉ oW)∧cw B w S rs eo oW
 | r::rs,vs,gs=> ∃v eo,vs=v::eo∧aW w S r v∧cw B w S rs eo gs
def jv (B:Nat→Prop) (w:World) (S:Nat→Nat→Prop) (r:DV) (v:Value) :Prop:=
 match r with
 | .sl (.own el) sz es=> ∃g,iX B w S el sz es v g
 | .sl (.cT el) sz es=> ∃gs,cw B w S [.sl (.cT el) sz es] [v] gs
 | .tuple rs=> ∃vs gs,v= .tuple vs.toArray∧cw B w S rs vs gs
 | .agg rs=> ∃vs gs,v= .agg vs.toArray∧cw B w S rs vs gs
 | x=>aW w S x v
structure iC (o:dw) (S0:Nat→Nat→Prop) (r:DV) (v:Value) (w':World) (S':Nat→Nat→Prop) :Prop where
 below:bJ o.gz o.w w'
 up: ∀b p,S0 b p→S' b p
 new: ∀b p,S' b p→S0 b p∨ ¬ o.gz b
 live: ∀b p,S' b p→b < w'.heap.size
 res:jv o.gz w' S' r v
def iZ (w:World) (S0:Nat→Nat→Prop) (ds:aw) (vs:List Value) (o:dw) :Prop:=
 match ds with
 | .mv el sz es::Bc=> ∃v eo g,vs=v::eo∧iX (fun _=>False) w S0 el sz es v g∧cg w S0 Bc eo∧o=dw.Lp w g
 | ds=>cg w S0 ds vs∧o=dw.all w
theorem cg.args {w:World} {S0:Nat→Nat→Prop} {ds:aw} {vs:List Value} (h:cg w S0 ds vs) :iZ w S0 ds vs (dw.all w):=by
 cases ds with
 | nil=>exact ⟨h,rfl⟩
 | cons d ds=>
  cases d<;>first
   | exact ⟨h,rfl⟩
   | (simp only [cg,aW] at h; obtain ⟨_,_,_,h,_⟩:=h; exact h.elim)
def Ft (P:Program) (f:FuncId) (ds:aw) (r:DV) :Prop:=
 (∃fn,P.funcs[f]? =some fn∧(fn.name== "runtime.NumGoroutine")=false∧fn.body.isNone=false)∧
  ∀(w:World) (vs:List Value) (S0:Nat→Nat→Prop) (o:dw),iZ w S0 ds vs o→(∀b o,S0 b o→b < w.heap.size)→
   Calls P f vs.toArray w fun e w'=> ∃v S',e= .returned v∧iC o S0 r v w' S'
def oY (P:Program) (f:FuncId) (args:Array Value) (w:World) (R:Value→World→Prop) :Prop:=
 ((∃fn,P.funcs[f]? =some fn∧(fn.name== "runtime.NumGoroutine")=false∧fn.body.isNone=false)∧Calls P f args w fun e w'=> ∃v,e= .returned v∧R v w')∨
 ∃v w',(callFunc f args).run P w= .ok (.value v) w'∧R v w'
theorem oY.mono {P:Program} {f:FuncId} {args:Array Value} {w:World} {R R':Value→World→Prop} (h:oY P f args w R) (hr: ∀v w',R v w'→R' v w') :oY P f args w R':=by
 rcases h with ⟨h1,h2⟩ | ⟨v,w',h1,h2⟩
 ·exact .inl ⟨h1,h2.mono fun e w' ⟨v,he,h⟩=>⟨v,he,hr v w' h⟩⟩
 ·exact .inr ⟨v,w',h1,hr v w' h2⟩
def bI (P:Program) (f:FuncId) (ds:aw) (r:DV) :Prop:=
 ∀(w:World) (vs:List Value) (S0:Nat→Nat→Prop) (o:dw),iZ w S0 ds vs o→(∀b o,S0 b o→b < w.heap.size)→
  oY P f vs.toArray w fun v w'=> ∃S',iC o S0 r v w' S'
theorem Ft.x {P:Program} {f:FuncId} {ds:aw} {r:DV} (h:Ft P f ds r) :bI P f ds r:=fun w vs S0 o h1 h2=>
 .inl ⟨h.1,(h.2 w vs S0 o h1 h2).mono fun e w' ⟨v,S',he,hp⟩=>⟨v,he,S',hp⟩⟩
def DV.Gi:DV→Bool
 | .mv _ _ _=>true
 | .sl (.own _) _ _=>true
 | _=>false
def kF (w:World) (n:Nat) (loc:Nat→Nat×Nat) :Nat→Prop:=fun k=>k < w.heap.size∧ ∀j,j < n→k≠(loc j).1
structure Bf (w:World) (S0:Nat→Nat→Prop) (vs os:aw) (us:List Value) (loc:Nat→Nat×Nat) :Prop where
 abT: ∀(τ:Nat→Nat) (ρ:Nat→Nat×Nat),(∀j,j < os.length→ρ (τ j)=loc j)→aS w S0 ρ (jK τ vs) us
 uF: ∀(τ:Nat→Nat) (ρ:Nat→Nat×Nat),(∀j,j < os.length→ρ (τ j)=loc j)→ ∀j y o,os[j]? =some y→y.ll τ=some o→bO (fun _=>False) w S0 ρ (τ j) o
 apart: ∀i j,i < os.length→j < os.length→(loc i).1=(loc j).1→i=j
structure kG (w:World) (S0:Nat→Nat→Prop) (n:Nat) (loc:Nat→Nat×Nat) (x:DV) (os:aw) (v:Value) (w':World) (S':Nat→Nat→Prop) (fq:Nat→Nat×Nat) :Prop where
 below:bJ (kF w n loc) w w'
 up: ∀b p,S0 b p→S' b p
 new: ∀b p,S' b p→S0 b p∨ ¬ kF w n loc b
 live: ∀b p,S' b p→b < w'.heap.size
 same: ∀j,j < n→fq j=loc j
 res: ∀(τ:Nat→Nat) (ρ:Nat→Nat×Nat),(∀j,j < os.length→ρ (τ j)=fq j)→aE w' S' ρ (x.dec τ) v
 uF: ∀(τ:Nat→Nat) (ρ:Nat→Nat×Nat),(∀j,j < os.length→ρ (τ j)=fq j)→ ∀j y o,os[j]? =some y→y.ll τ=some o→bO (kF w n loc) w' S' ρ (τ j) o
 apart: ∀i j y z,os[i]? =some y→os[j]? =some z→y.Gi=true→z.Gi=true→(fq i).1=(fq j).1→i=j
def Lv (P:Program) (f:FuncId) (vs os:aw) (x:DV) (x5:aw) :Prop:=
 ∀(w:World) (us:List Value) (S0:Nat→Nat→Prop) (loc:Nat→Nat×Nat),Bf w S0 vs os us loc→(∀b p,S0 b p→b < w.heap.size)→
  oY P f us.toArray w fun v w'=> ∃S' fq,kG w S0 os.length loc x x5 v w' S' fq
structure dc (P:Program) (call:FuncId→aw→aH) :Prop where
 aC: ∀f ds r,call f ds=some r→bI P f ds r
 gi: ∀f vs os x x5,call f (pad (.gi vs os))=some (.gi [x] x5)→Lv P f vs os x x5
theorem iX.mono {B B':Nat→Prop} {w:World} {S:Nat→Nat→Prop} {el sz g:Nat} {es:aj} {v:Value} (h:iX B w S el sz es v g) (hB: ∀k,B' k→B k) :iX B' w S el sz es v g:=by
 obtain ⟨cap,h1,h2,h3⟩:=h
 exact ⟨cap,h1,h2,fun h=>h3.base (hB _ h),h3.here,h3.fits,h3.len,h3.apart⟩
theorem qc (hI:Inv w0 S0 N ρ S st a w) {t el sz g:Nat} (hp:t % 100000≠99999) {es:aj} {v:Value} (h:iX w0.gz w S el sz es v g) (lZ: ∀s o,st.aT s=some o→(ρ s).1≠g) :
  ∃cap,Inv w0 S0 N (fun n=>if n=t then (g,cap) else ρ n) S (st.at_ t (.aC el sz es)) a w∧aE w S (fun n=>if n=t then (g,cap) else ρ n) (.ah t sz 0 es.length) v:=by
 obtain ⟨cap,rfl,bj,cR⟩:=h
 refine ⟨cap,hI.at_ hp (bJ.refl _ _) (fun _ _ _=>rfl) lZ cR.apart ⟨bj,by simpa using cR⟩,?_⟩
 simp only [aE,if_true]
 exact ⟨_,_,rfl,fun _=>by simp,fun _=>rfl,cR.fits,rfl⟩
theorem nM {t:Nat} : ∀(rs:aw) (j:Nat) (st:St),(bV t j rs st).1.length=rs.length
 | [],j,st=>rfl
 | r::rs,j,st=>by
  have other:(bV t (j+1) rs st).1.length+1=rs.length+1:=by rw [nM rs (j+1) st]
  cases r with
  | sl k sz es=>
   cases k with
   | own el=>
    show (bV t (j+1) rs _).1.length+1=rs.length+1
    rw [nM rs (j+1) _]
   | _=>exact other
  | _=>exact other
theorem nN {t:Nat} : ∀(rs:aw) (j:Nat) (st:St),rs.all DV.one=true→(bV t j rs st).1.all AV.one=true
 | [],j,st,_=>rfl
 | r::rs,j,st,h=>by
  simp only [List.all_cons,Bool.and_eq_true] at h
  have other:(AV.d r::(bV t (j+1) rs st).1).all AV.one=true:=by
   simp only [List.all_cons,Bool.and_eq_true]
   exact ⟨h.1,nN rs (j+1) st h.2⟩
  cases r with
  | sl k sz es=>
   cases k with
   | own el=>
    show (AV.ah _ _ _ _::(bV t (j+1) rs _).1).all AV.one=true
    simp only [List.all_cons,Bool.and_eq_true]
    exact ⟨rfl,nN rs (j+1) _ h.2⟩
   | _=>exact other
  | _=>exact other
theorem kH {base:Nat→Prop} {t:Nat} (hp:t % 100000≠99999) : ∀(rs:aw) (j:Nat) (vs:List Value) (gs used:List Nat) (st:St) (ρ:Nat→Nat×Nat),Inv w0 S0 N ρ S st a w→(∀k,w0.gz k→base k)→iY base w S rs vs gs→
  (∀s o,st.aT s=some o→base (ρ s).1∨(ρ s).1∈used)→(∀g∈gs,g ∉ used)→
  ∃ρ',Inv w0 S0 N ρ' S (bV t j rs st).2 a w∧(∀ρ2:Nat→Nat×Nat,(∀k,j≤k→k < j+rs.length→ρ2 (t+100000 * k)=ρ' (t+100000 * k))→aS w S ρ2 (bV t j rs st).1 vs)∧
   (∀n,(∀k,j≤k→k < j+rs.length→n≠t+100000 * k)→ρ' n=ρ n)∧(∀s o,(bV t j rs st).2.aT s=some o→base (ρ' s).1∨(ρ' s).1∈gs++used)
 | [],j,vs,gs,used,st,ρ,hI,hB,hr,hf,hg=>by
  simp only [iY] at hr
  obtain ⟨rfl,rfl⟩:=hr
  exact ⟨ρ,hI,fun _ _=>by simp only [bV,aS],fun _ _=>rfl,fun s o h=>by simpa using hf s o h⟩
 | r::rs,j,vs,gs,used,st,ρ,hI,hB,hr,hf,hg=>by
  by_cases dh: ∃el sz es,r= .sl (.own el) sz es
  ·obtain ⟨el,sz,es,rfl⟩:=dh
   simp only [iY] at hr
   obtain ⟨v,eo,g,oW,rfl,rfl,ho,M9,iT⟩:=hr
   have ng:=(ho.choose_spec.2.2).base
   have lZ: ∀s o,st.aT s=some o→(ρ s).1≠g:=by
    intro s o hs
    rcases hf s o hs with h | h
    ·exact fun e=>ng (e ▸ h)
    ·intro he
     exact hg g (by simp) (he ▸ h)
   obtain ⟨cap,e7,hv⟩:=qc hI (t:=t+100000 * j) (by omega) (ho.mono hB) lZ
   obtain ⟨ρ',h1,h2,h3,h4⟩:=kH hp rs (j+1) eo oW (g::used) _ _ e7 hB iT (by
    intro s o hs
    simp only [St.at_] at hs
    by_cases gn:s=t+100000 * j
    ·simp [gn]
    ·simp only [gn,if_false] at hs ⊢
     cases qX:st.aT s with
     | none=>simp [qX] at hs
     | some o1=>
      rcases hf s o1 qX with h | h
      ·exact .inl h
      ·exact .inr (by simp [h])) (by
    intro g' Ar
    simp only [List.mem_cons,not_or]
    refine ⟨fun e=>M9 (e ▸ Ar),hg g' (by simp [Ar])⟩)
   refine ⟨ρ',h1,fun ρ2 hρ=> ?_,fun n hn=> ?_,fun s o hs=> ?_⟩
   ·simp only [bV,aS]
    refine ⟨v,eo,rfl,?_,h2 ρ2 fun k Lw Gj=>hρ k (by omega) (by simp only [List.length_cons]; omega)⟩
    have he:=h3 (t+100000 * j) (fun k hk _=>by omega)
    have uI:=hρ j (Nat.le_refl _) (by simp only [List.length_cons]; omega)
    simp only [aE] at hv ⊢
    rw [uI,he]
    simpa using hv
   ·rw [h3 n fun k hk Gj=>hn k (by omega) (by simp only [List.length_cons]; omega)]
    simp [hn j (Nat.le_refl _) (by simp only [List.length_cons]; omega)]
   ·rcases h4 s o hs with h | h
    ·exact .inl h
    ·right
     simp only [List.mem_append,List.mem_cons] at h ⊢
     first
     | (rcases h with h | h | h<;>simp [h]; done)
     | (rcases h with h | h<;>simp [h]; done)
  ·have AY:bV t j (r::rs) st=(.d r::(bV t (j+1) rs st).1,(bV t (j+1) rs st).2):=by
    cases r<;>try rfl
    rename_i k sz es
    cases k<;>first | rfl | exact absurd ⟨_,_,_,rfl⟩ dh
   have ja: ∃v eo,vs=v::eo∧aW w S r v∧iY base w S rs eo gs:=by
    cases r<;>try (simpa only [iY] using hr)
    rename_i k sz es
    cases k<;>first | (simpa only [iY] using hr) | exact absurd ⟨_,_,_,rfl⟩ dh
   obtain ⟨v,eo,rfl,h1,h2⟩:=ja
   obtain ⟨ρ',g1,g2,g3,g4⟩:=kH hp rs (j+1) eo gs used st ρ hI hB h2 hf hg
   rw [AY]
   refine ⟨ρ',g1,fun ρ2 hρ=> ?_,fun n hn=>g3 n fun k hk Gj=>hn k (by omega) (by simp only [List.length_cons]; omega),g4⟩
   simp only [aS,aE]
   exact ⟨v,eo,rfl,h1,g2 ρ2 fun k Lw Gj=>hρ k (by omega) (by simp only [List.length_cons]; omega)⟩
theorem sZ {t:Nat} : ∀(es:aj) (j:Nat) (st:St),(cN t j es st).1.length=es.length
 | [],j,st=>rfl
 | e::es,j,st=>by
  show (cN t (j+e.length) es _).1.length+1=es.length+1
  rw [sZ es]
theorem q5 {t sz:Nat} : ∀(es:aj) (j:Nat) (st:St),(∀e∈es,e.length=sz∧e.all DV.one=true)→ ∀e∈(cN t j es st).1,e.length=sz∧e.all AV.one=true
 | [],j,st,_,e,he=>by cases he
 | x::es,j,st,h,e,he=>by
  have hx:=h x (by simp)
  rcases List.mem_cons.1 (show e∈(bV t j x st).1::(cN t (j+x.length) es (bV t j x st).2).1 from he) with rfl | he
  ·exact ⟨by rw [nM]; exact hx.1,nN x j st hx.2⟩
  ·exact q5 es _ _ (fun y hy=>h y (by simp [hy])) e he
theorem oZ {base:Nat→Prop} {t:Nat} (hp:t % 100000≠99999) : ∀(es:aj) (j:Nat) (k8:List (List Value)) (hs used:List Nat) (st:St) (ρ:Nat→Nat×Nat),Inv w0 S0 N ρ S st a w→(∀k,w0.gz k→base k)→l2 base w S es k8 hs→
  (∀s o,st.aT s=some o→base (ρ s).1∨(ρ s).1∈used)→(∀g∈hs,g ∉ used)→
  ∃ρ',Inv w0 S0 N ρ' S (cN t j es st).2 a w∧(∀ρ2:Nat→Nat×Nat,(∀k,j≤k→k < j+gK es→ρ2 (t+100000 * k)=ρ' (t+100000 * k))→ ∀(i:Nat) (e:List AV) (us:List Value),(cN t j es st).1[i]? =some e→k8[i]? =some us→aS w S ρ2 e us)∧
   (∀n,(∀k,j≤k→k < j+gK es→n≠t+100000 * k)→ρ' n=ρ n)∧(∀s o,(cN t j es st).2.aT s=some o→base (ρ' s).1∨(ρ' s).1∈hs++used)
 | [],j,k8,hs,used,st,ρ,hI,hB,hr,hf,hg=>by
  simp only [l2] at hr
  obtain ⟨rfl,rfl⟩:=hr
  exact ⟨ρ,hI,fun _ _ i e us he _=>by simp [cN] at he,fun _ _=>rfl,fun s o h=>by simpa using hf s o h⟩
 | x::es,j,k8,hs,used,st,ρ,hI,hB,hr,hf,hg=>by
  simp only [l2] at hr
  obtain ⟨us,Ep,h1,h2,rfl,rfl,hx,oi,hd⟩:=hr
  obtain ⟨ρ1,i1,i2,i3,i4⟩:=kH hp x j us h1 used st ρ hI hB hx hf (fun g Ar=>hg g (List.mem_append.2 (.inl Ar)))
  obtain ⟨ρ',k1,k2,k3,k4⟩:=oZ hp es (j+x.length) Ep h2 (h1++used) _ ρ1 i1 hB oi i4 (fun g Ar hm=>by
   rcases List.mem_append.1 hm with hm | hm
   ·exact hd g hm Ar
   ·exact hg g (List.mem_append.2 (.inr Ar)) hm)
  refine ⟨ρ',k1,fun ρ2 hρ i e Be he hu=> ?_,fun n hn=> ?_,fun s o hs=> ?_⟩
  ·cases i with
   | zero=>
    cases he
    cases hu
    refine i2 ρ2 fun k Lw Gj=> ?_
    rw [hρ k Lw (by simp only [gK]; omega)]
    exact k3 _ fun k' Ln QJ=>by omega
   | succ i=>exact k2 ρ2 (fun k Lw Gj=>hρ k (by omega) (by simp only [gK]; omega)) i e Be he hu
  ·rw [k3 n fun k Lw Gj=>hn k (by omega) (by simp only [gK]; omega)]
   exact i3 n fun k Lw Gj=>hn k (by omega) (by simp only [gK]; omega)
  ·rcases k4 s o hs with h | h
   ·exact .inl h
   ·right
    simp only [List.mem_append] at h ⊢
    first
    | (rcases h with h | h | h<;>simp [h]; done)
    | (rcases h with h | h<;>simp [h]; done)
theorem Bg {base:Nat→Prop} {t j:Nat} (hp:t % 100000≠99999) {el sz g:Nat} {es:aj} {v:Value} {hs used:List Nat} {ρ:Nat→Nat×Nat} {st:St} (hI:Inv w0 S0 N ρ S st a w) (hB: ∀k,w0.gz k→base k) (h:oX base w S el sz es v g hs)
  (hf: ∀s o,st.aT s=some o→base (ρ s).1∨(ρ s).1∈used) (hgu:g ∉ used) (hhu: ∀x∈hs,x ∉ used) :
  ∃ρ',Inv w0 S0 N ρ' S ((cN t (j+1) es st).2.at_ (t+100000 * j) (.mix el sz (cN t (j+1) es st).1)) a w∧(∀ρ2:Nat→Nat×Nat,ρ2 (t+100000 * j)=ρ' (t+100000 * j)→aE w S ρ2 (.ah (t+100000 * j) sz 0 es.length) v)∧
   (∀n,(∀k,j≤k→n≠t+100000 * k)→ρ' n=ρ n)∧(∀s o,((cN t (j+1) es st).2.at_ (t+100000 * j) (.mix el sz (cN t (j+1) es st).1)).aT s=some o→base (ρ' s).1∨(ρ' s).1∈(g::hs)++used):=by
 obtain ⟨cap,k8,rfl,bj,cR,hR,hgh⟩:=h
 obtain ⟨ρ1,i1,i2,i3,i4⟩:=oZ (t:=t) hp es (j+1) k8 hs used st ρ hI hB hR hf hhu
 have ng:=cR.base
 have lZ: ∀s o,(cN t (j+1) es st).2.aT s=some o→(ρ1 s).1≠g:=by
  intro s o dp he
  rcases i4 s o dp with h | h
  ·exact ng (he ▸ h)
  ·rcases List.mem_append.1 h with h | h
   ·exact hgh (he ▸ h)
   ·exact hgu (he ▸ h)
 have RA:=sZ (t:=t) es (j+1) st
 refine ⟨_,i1.at_ (t:=t+100000 * j) (by omega) (cap:=cap) (bJ.refl _ _) (fun _ _ _=>rfl) lZ cR.apart ⟨q5 es _ _ bj,?_⟩,fun ρ2 hρ=> ?_,fun n hn=> ?_,fun s o dp=> ?_⟩
 ·rw [RA]
  simp only [if_true]
  refine ⟨fun h=>ng (hB _ h),?_,cR.fits,cR.len,cR.apart⟩
  obtain ⟨cur,c1,c2,c3⟩:=cR.here
  refine ⟨cur,c1,c2,fun i' j' yM M'=> ?_⟩
  obtain ⟨u,hu,hr⟩:=c3 i' j' yM M'
  refine ⟨u,hu,fun e c he hc=> ?_⟩
  have nJ:i' < k8.length:=by
   have : ∀(es:aj) (k8:List (List Value)) (hs:List Nat),l2 base w S es k8 hs→k8.length=es.length:=by
    intro es
    induction es with
    | nil=>intro k8 hs h; simp only [l2] at h; rw [h.1]; rfl
    | cons x es ih=>
     intro k8 hs h
     simp only [l2] at h
     obtain ⟨_,_,_,_,rfl,_,_,h,_⟩:=h
     simp only [List.length_cons,ih _ _ h]
   rw [this _ _ _ hR]
   exact yM
  have hrd:=i2 (fun n=>if n=t+100000 * j then (g,cap) else ρ1 n) (fun k Lw Gj=>by
   rw [if_neg (by omega)]) i' e k8[i'] he (List.getElem?_eq_getElem nJ)
  obtain ⟨u',g7,uz⟩:=aS.at _ _ hrd j' c hc
  rw [← hr _ u' (List.getElem?_eq_getElem nJ) g7]
  exact uz
 ·simp only [aE]
  rw [hρ]
  simp only [if_true]
  exact ⟨_,_,rfl,fun _=>by simp,fun _=>rfl,cR.fits,rfl⟩
 ·simp only [if_neg (hn j (Nat.le_refl _))]
  exact i3 n fun k Lw Gj=>hn k (by omega)
 ·simp only [St.at_] at dp
  by_cases gn:s=t+100000 * j
  ·simp [gn]
  ·simp only [gn,if_false] at dp ⊢
   cases qX:(cN t (j+1) es st).2.aT s with
   | none=>simp [qX] at dp
   | some o1=>
    rcases i4 s o1 qX with h | h
    ·exact .inl h
    ·right
     simp only [List.mem_append,List.mem_cons] at h ⊢
     first
     | (rcases h with h | h | h<;>simp [h]; done)
     | (rcases h with h | h<;>simp [h]; done)
theorem ft {base:Nat→Prop} {t:Nat} (hp:t % 100000≠99999) : ∀(rs:aw) (j:Nat) (vs:List Value) (gs used:List Nat) (st:St) (ρ:Nat→Nat×Nat),Inv w0 S0 N ρ S st a w→(∀k,w0.gz k→base k)→cw base w S rs vs gs→
  (∀s o,st.aT s=some o→base (ρ s).1∨(ρ s).1∈used)→(∀g∈gs,g ∉ used)→
  ∃ρ',Inv w0 S0 N ρ' S (bX t j rs st).2 a w∧aS w S ρ' (bX t j rs st).1 vs∧ ∀n,(∀k,j≤k→n≠t+100000 * k)→ρ' n=ρ n
 | [],j,vs,gs,used,st,ρ,hI,hB,hr,hf,hg=>by
  simp only [cw] at hr
  obtain ⟨rfl,rfl⟩:=hr
  exact ⟨ρ,hI,by simp only [bX,aS],fun _ _=>rfl⟩
 | r::rs,j,vs,gs,used,st,ρ,hI,hB,hr,hf,hg=>by
  by_cases dh: ∃el sz es,r= .sl (.own el) sz es
  ·obtain ⟨el,sz,es,rfl⟩:=dh
   simp only [cw] at hr
   obtain ⟨v,eo,g,oW,rfl,rfl,ho,M9,iT⟩:=hr
   have ng:=(ho.choose_spec.2.2).base
   have lZ: ∀s o,st.aT s=some o→(ρ s).1≠g:=by
    intro s o hs
    rcases hf s o hs with h | h
    ·exact fun e=>ng (e ▸ h)
    ·intro he
     exact hg g (by simp) (he ▸ h)
   obtain ⟨cap,e7,hv⟩:=qc hI (t:=t+100000 * j) (by omega) (ho.mono hB) lZ
   obtain ⟨ρ',h1,h2,h3⟩:=ft hp rs (j+1) eo oW (g::used) _ _ e7 hB iT (by
    intro s o hs
    simp only [St.at_] at hs
    by_cases gn:s=t+100000 * j
    ·simp [gn]
    ·simp only [gn,if_false] at hs ⊢
     cases qX:st.aT s with
     | none=>simp [qX] at hs
     | some o1=>
      rcases hf s o1 qX with h | h
      ·exact .inl h
      ·exact .inr (by simp [h])) (by
    intro g' Ar
    simp only [List.mem_cons,not_or]
    refine ⟨fun e=>M9 (e ▸ Ar),hg g' (by simp [Ar])⟩)
   refine ⟨ρ',h1,?_,fun n hn=> ?_⟩
   ·simp only [bX,aS]
    refine ⟨v,eo,rfl,?_,h2⟩
    have he:=h3 (t+100000 * j) (fun k hk=>by omega)
    simp only [aE] at hv ⊢
    rw [he]
    simpa using hv
   ·rw [h3 n fun k hk=>hn k (by omega)]
    simp [hn j (Nat.le_refl _)]
  ·by_cases ni: ∃el sz es,r= .sl (.cT el) sz es
   ·obtain ⟨el,sz,es,rfl⟩:=ni
    simp only [cw] at hr
    obtain ⟨v,eo,g,hs,oW,rfl,rfl,ho,M9,hnh,iT⟩:=hr
    obtain ⟨ρ1,d1,d2,d3,d4⟩:=Bg (t:=t) (j:=j) hp hI hB ho hf (hg g (by simp)) (fun x hx=>hg x (by simp [hx]))
    obtain ⟨ρ',h1,h2,h3⟩:=ft hp rs (j+1+gK es) eo oW ((g::hs)++used) _ _ d1 hB iT d4 (by
     intro g' Ar hm
     simp only [List.mem_append,List.mem_cons] at hm
     rcases hm with (rfl | hm) | hm
     ·exact M9 Ar
     ·exact hnh g' hm Ar
     ·exact hg g' (by simp [Ar]) hm)
    refine ⟨ρ',h1,?_,fun n hn=> ?_⟩
    ·simp only [bX,aS]
     exact ⟨v,eo,rfl,d2 ρ' (h3 _ fun k hk=>by omega),h2⟩
    ·rw [h3 n fun k hk=>hn k (by omega)]
     exact d3 n fun k hk=>hn k hk
   have AY:bX t j (r::rs) st=(.d r::(bX t (j+1) rs st).1,(bX t (j+1) rs st).2):=by
    cases r<;>try rfl
    rename_i k sz es
    cases k<;>first | rfl | exact absurd ⟨_,_,_,rfl⟩ dh | exact absurd ⟨_,_,_,rfl⟩ ni
   have ja: ∃v eo,vs=v::eo∧aW w S r v∧cw base w S rs eo gs:=by
    cases r<;>try (simpa only [cw] using hr)
    rename_i k sz es
    cases k<;>first | (simpa only [cw] using hr) | exact absurd ⟨_,_,_,rfl⟩ dh | exact absurd ⟨_,_,_,rfl⟩ ni
   obtain ⟨v,eo,rfl,h1,h2⟩:=ja
   obtain ⟨ρ',g1,g2,g3⟩:=ft hp rs (j+1) eo gs used st ρ hI hB h2 hf hg
   rw [AY]
   refine ⟨ρ',g1,?_,fun n hn=>g3 n fun k hk=>hn k (by omega)⟩
   simp only [aS,aE]
   exact ⟨v,eo,rfl,h1,g2⟩
theorem cw.Gk {B:Nat→Prop} : ∀(rs:aw) (vs:List Value) (gs:List Nat),rs.any DV.dX=false→cw B w S rs vs gs→cg w S rs vs
 | [],vs,gs,_,h=>by simp only [cw] at h; simp only [cg]; exact h.1
 | r::rs,vs,gs,ho,h=>by
  simp only [List.any_cons,Bool.or_eq_false_iff] at ho
  have : ∃v eo,vs=v::eo∧aW w S r v∧cw B w S rs eo gs:=by
   cases r<;>try (simpa only [cw] using h)
   rename_i k sz es
   cases k<;>first | (simpa only [cw] using h) | (simp [DV.dX] at ho; done)
  obtain ⟨v,eo,rfl,h1,h2⟩:=this
  simp only [cg]
  exact ⟨v,eo,rfl,h1,cw.Gk rs eo gs ho.2 h2⟩
theorem fc {base:Nat→Prop} (hI:Inv w0 S0 N ρ S st a w) (hB: ∀k,w0.gz k→base k) {t:Nat} (ht:t < N) {r:DV} {v:Value} (hr:jv base w S r v) (hf: ∀s o,st.aT s=some o→base (ρ s).1) :
  cF w0 S0 N (place t r st) (a.put (some t) v) w:=by
 have fY:aW w S r v→cF w0 S0 N (st.put t (.d r)) (a.put (some t) v) w:=fun h=>⟨ρ,S,hI.put ht (by simpa only [aE] using h)⟩
 cases r with
 | sl k sz es=>
  cases k with
  | own el=>
   simp only [jv] at hr
   obtain ⟨g,ho⟩:=hr
   have ng:=(ho.choose_spec.2.2).base
   obtain ⟨cap,e7,hv⟩:=qc hI (t:=t) (hI.fl ht) (ho.mono hB) (fun s o hs e=>ng (e ▸ hf s o hs))
   exact ⟨_,S,e7.put ht hv⟩
  | cT el=>
   simp only [jv] at hr
   obtain ⟨gs,hl⟩:=hr
   obtain ⟨ρ',h1,h2,_⟩:=ft (t:=t) (hI.fl ht) [.sl (.cT el) sz es] 1 [v] gs [] st ρ hI hB hl (fun s o hs=> .inl (hf s o hs)) (by simp)
   simp only [place]
   refine ⟨ρ',S,h1.put ht ?_⟩
   generalize (bX t 1 [DV.sl (.cT el) sz es] st).1=l at *
   cases l with
   | nil=>simp only [List.headD_nil,aE]
   | cons c l=>
    simp only [aS] at h2
    obtain ⟨u,us,he,hu,_⟩:=h2
    cases he
    exact hu
  | ro=>exact fY (by simpa only [jv] using hr)
  | tight=>exact fY (by simpa only [jv] using hr)
 | tuple rs=>
  simp only [jv] at hr
  obtain ⟨vs,gs,rfl,hl⟩:=hr
  simp only [place]
  split
  ·obtain ⟨ρ',h1,h2,_⟩:=ft (t:=t) (hI.fl ht) rs 1 vs gs [] st ρ hI hB hl (fun s o hs=> .inl (hf s o hs)) (by simp)
   exact ⟨ρ',S,h1.put ht (by simp only [aE]; exact ⟨vs,rfl,h2⟩)⟩
  ·rename_i ho
   exact fY (by simp only [aW]; exact ⟨vs,rfl,cw.Gk rs vs gs (by simpa using ho) hl⟩)
 | agg rs=>
  simp only [jv] at hr
  obtain ⟨vs,gs,rfl,hl⟩:=hr
  simp only [place]
  split
  ·obtain ⟨ρ',h1,h2,_⟩:=ft (t:=t) (hI.fl ht) rs 1 vs gs [] st ρ hI hB hl (fun s o hs=> .inl (hf s o hs)) (by simp)
   exact ⟨ρ',S,h1.put ht (by simp only [aE]; exact ⟨vs,rfl,h2⟩)⟩
  ·rename_i ho
   exact fY (by simp only [aW]; exact ⟨vs,rfl,cw.Gk rs vs gs (by simpa using ho) hl⟩)
 | _=>exact fY (by simpa only [jv] using hr)
end
theorem bO.Na {B B':Nat→Prop} {w:World} {S:Nat→Nat→Prop} {ρ:Nat→Nat×Nat} {s:Nat} {o:Ob} (h:bO B w S ρ s o) (hB: ¬ B' (ρ s).1) :bO B' w S ρ s o:=by
 cases o with
 | aC el sz es=>exact ⟨h.1,⟨hB,h.2.here,h.2.fits,h.2.len,h.2.apart⟩⟩
 | mix el sz es=>exact ⟨h.1,⟨hB,h.2.here,h.2.fits,h.2.len,h.2.apart⟩⟩
theorem nodup_iff: ∀(l:List Nat),nodup l=true↔l.Nodup
 | []=>by simp [nodup]
 | x::l=>by
  simp only [nodup,Bool.and_eq_true,Bool.not_eq_true',List.nodup_cons,nodup_iff l,List.contains_eq_mem,decide_eq_false_iff_not]
theorem kI: ∀{R:List Nat} {s j:Nat},idxOf R s=some j→R[j]? =some s
 | [],s,j,h=>by simp [idxOf] at h
 | a::l,s,j,h=>by
  simp only [idxOf] at h
  cases hb:Nat.beq a s with
  | true=>
   simp only [hb,cond_true,Option.some.injEq] at h
   subst h
   rw [Nat.eq_of_beq_eq_true hb]
   rfl
  | false=>
   simp only [hb,cond_false,Option.map_eq_some_iff] at h
   obtain ⟨k,hk,rfl⟩:=h
   simpa using kI hk
theorem jV: ∀{R:List Nat} {s j:Nat},R.Nodup→R[j]? =some s→idxOf R s=some j
 | [],s,j,_,h=>by simp at h
 | a::l,s,j,hn,h=>by
  rw [List.nodup_cons] at hn
  simp only [idxOf]
  cases j with
  | zero=>
   simp only [List.getElem?_cons_zero,Option.some.injEq] at h
   subst h
   rw [show Nat.beq a a=true from Nat.beq_refl a]
   rfl
  | succ j=>
   simp only [List.getElem?_cons_succ] at h
   have cu:Nat.beq a s=false:=by
    cases hb:Nat.beq a s with
    | true=>exact absurd (List.mem_of_getElem? h) (Nat.eq_of_beq_eq_true hb ▸ hn.1)
    | false=>rfl
   rw [cu,cond_false,jV hn.2 h]
   rfl
mutual
theorem CM {w:World} {S:Nat→Nat→Prop} {ρ ρ':Nat→Nat×Nat} {R:List Nat} {τ:Nat→Nat} (hτ: ∀j s,R[j]? =some s→ρ' (τ j)=ρ s) : ∀(v:AV) (x:DV) (u:Value),v.enc R=some x→aE w S ρ v u→aE w S ρ' (x.dec τ) u
 | .d y,x,u,h,hr=>by
  simp only [AV.enc,Option.some.injEq] at h
  subst h
  simpa only [DV.dec,aE] using hr
 | .ah s sz off n,x,u,h,hr=>by
  simp only [AV.enc,Option.map_eq_some_iff] at h
  obtain ⟨j,hj,rfl⟩:=h
  simp only [DV.dec,aE] at hr ⊢
  rw [hτ j s (kI hj)]
  exact hr
 | .ptr s sz i off,x,u,h,hr=>by
  simp only [AV.enc,Option.map_eq_some_iff] at h
  obtain ⟨j,hj,rfl⟩:=h
  simp only [DV.dec,aE] at hr ⊢
  rw [hτ j s (kI hj)]
  exact hr
 | .agg cs,x,u,h,hr=>by
  simp only [AV.enc,Option.map_eq_some_iff] at h
  obtain ⟨l,hl,rfl⟩:=h
  simp only [aE] at hr
  obtain ⟨us,rfl,hu⟩:=hr
  simp only [DV.dec,aE]
  exact ⟨us,rfl,l5 hτ cs l us hl hu⟩
 | .tuple cs,x,u,h,hr=>by
  simp only [AV.enc,Option.map_eq_some_iff] at h
  obtain ⟨l,hl,rfl⟩:=h
  simp only [aE] at hr
  obtain ⟨us,rfl,hu⟩:=hr
  simp only [DV.dec,aE]
  exact ⟨us,rfl,l5 hτ cs l us hl hu⟩
 | .mA _ _ _ _ _,_,_,h,_=>by simp [AV.enc] at h
 | .func _ _,_,_,h,_=>by simp [AV.enc] at h
 | .w _ _ _,_,_,h,_=>by simp [AV.enc] at h
 | .undef,_,_,h,_=>by simp [AV.enc] at h
theorem l5 {w:World} {S:Nat→Nat→Prop} {ρ ρ':Nat→Nat×Nat} {R:List Nat} {τ:Nat→Nat} (hτ: ∀j s,R[j]? =some s→ρ' (τ j)=ρ s) : ∀(l:List AV) (m:aw) (us:List Value),gL R l=some m→aS w S ρ l us→aS w S ρ' (jK τ m) us
 | [],m,us,h,hr=>by
  simp only [gL,Option.some.injEq] at h
  subst h
  simpa only [jK,aS] using hr
 | v::l,m,us,h,hr=>by
  simp only [gL] at h
  cases hv:v.enc R with
  | none=>simp [hv] at h
  | some x=>
   cases hl:gL R l with
   | none=>simp [hv,hl] at h
   | some m'=>
    simp only [hv,hl,Option.some.injEq] at h
    subst h
    simp only [aS] at hr
    obtain ⟨u,oj,rfl,h1,h2⟩:=hr
    simp only [jK,aS]
    exact ⟨u,oj,rfl,CM hτ v x u hv h1,l5 hτ l m' oj hl h2⟩
end
theorem s6 {R:List Nat} : ∀{l:List AV} {m:aw},gL R l=some m→m.length=l.length
 | [],m,h=>by simp only [gL,Option.some.injEq] at h; subst h; rfl
 | v::l,m,h=>by
  simp only [gL] at h
  cases hv:v.enc R with
  | none=>simp [hv] at h
  | some x=>
   cases hl:gL R l with
   | none=>simp [hv,hl] at h
   | some m'=>
    simp only [hv,hl,Option.some.injEq] at h
    subst h
    simp [s6 hl]
theorem o3 {τ:Nat→Nat} : ∀(m:aw),(jK τ m).length=m.length
 | []=>rfl
 | x::m=>by simp [jK,o3 m]
theorem Jd {R:List Nat} {τ:Nat→Nat} {v:AV} {x:DV} (h:v.enc R=some x) (h1:v.one=true) :(x.dec τ).one=true:=by
 cases v<;>simp only [AV.enc,Option.map_eq_some_iff,Option.some.injEq,reduceCtorEq] at h
 ·subst h
  simpa only [DV.dec,AV.one] using h1
 ·obtain ⟨j,_,rfl⟩:=h
  rfl
 ·obtain ⟨j,_,rfl⟩:=h
  rfl
 ·simp [AV.one] at h1
 ·simp [AV.one] at h1
theorem yS {R:List Nat} {τ:Nat→Nat} : ∀{l:List AV} {m:aw},gL R l=some m→l.all AV.one=true→(jK τ m).all AV.one=true
 | [],m,h,_=>by simp only [gL,Option.some.injEq] at h; subst h; rfl
 | v::l,m,h,h1=>by
  simp only [gL] at h
  cases hv:v.enc R with
  | none=>simp [hv] at h
  | some x=>
   cases hl:gL R l with
   | none=>simp [hv,hl] at h
   | some m'=>
    simp only [hv,hl,Option.some.injEq] at h
    subst h
    simp only [List.all_cons,Bool.and_eq_true] at h1
    simp only [jK,List.all_cons,Bool.and_eq_true]
    exact ⟨Jd hv h1.1,yS hl h1.2⟩
theorem yT {R:List Nat} : ∀{es:List (List AV)} {ms:aj},nb R es=some ms→ms.length=es.length∧ ∀(i:Nat) (e:List AV),es[i]? =some e→ ∃m,ms[i]? =some m∧gL R e=some m
 | [],ms,h=>by simp only [nb,Option.some.injEq] at h; subst h; simp
 | e::es,ms,h=>by
  simp only [nb] at h
  cases he:gL R e with
  | none=>simp [he] at h
  | some m=>
   cases oi:nb R es with
   | none=>simp [he,oi] at h
   | some ms'=>
    simp only [he,oi,Option.some.injEq] at h
    subst h
    obtain ⟨h1,h2⟩:=yT oi
    refine ⟨by simp [h1],fun i e' bF=> ?_⟩
    cases i with
    | zero=>simp only [List.getElem?_cons_zero,Option.some.injEq] at bF; subst bF; exact ⟨m,rfl,he⟩
    | succ i=>simpa using h2 i e' (by simpa using bF)
theorem Gl {B:Nat→Prop} {w:World} {S:Nat→Nat→Prop} {ρ ρ':Nat→Nat×Nat} {R:List Nat} {τ:Nat→Nat} (hτ: ∀j s,R[j]? =some s→ρ' (τ j)=ρ s) {s s':Nat} (hs:ρ' s'=ρ s) {o o':Ob} {x:DV}
  (h:bO B w S ρ s o) (he:o.enc R=some x) (hd:x.ll τ=some o') :bO B w S ρ' s' o':=by
 cases o with
 | aC el sz es=>
  simp only [Ob.enc,Option.some.injEq] at he
  subst he
  simp only [DV.ll,Option.some.injEq] at hd
  subst hd
  refine ⟨h.1,?_⟩
  rw [hs]
  exact h.2
 | mix el sz es=>
  simp only [Ob.enc,Option.map_eq_some_iff] at he
  obtain ⟨ms,hm,rfl⟩:=he
  simp only [DV.ll,Option.some.injEq] at hd
  subst hd
  obtain ⟨bj,cR⟩:=h
  obtain ⟨cur,cS,sU,cD⟩:=cR.here
  obtain ⟨hl,An⟩:=yT hm
  have hex: ∀(i:Nat) (e':List AV),(ms.map (jK τ))[i]? =some e'→ ∃e m,es[i]? =some e∧gL R e=some m∧e'=jK τ m:=by
   intro i e' bF
   simp only [List.getElem?_map,Option.map_eq_some_iff] at bF
   obtain ⟨m,Ap,rfl⟩:=bF
   have hi:i < es.length:=by rw [← hl]; exact (List.getElem?_eq_some_iff.1 Ap).1
   obtain ⟨m2,h2,h3⟩:=An i _ (List.getElem?_eq_getElem hi)
   rw [Ap] at h2
   cases h2
   exact ⟨_,m,List.getElem?_eq_getElem hi,h3,rfl⟩
  refine lY (blk:=(ρ s).1) (cap:=(ρ s).2) (cur:=cur) hs cR.base cS sU (by simpa [hl] using cR.fits) cR.len cR.apart (fun e' bF=> ?_) fun i j e' c bF hc=> ?_
  ·obtain ⟨i,hi,rfl⟩:=List.getElem_of_mem bF
   obtain ⟨e,m,h1,h2,h3⟩:=hex i _ (List.getElem?_eq_getElem hi)
   have :=bj e (List.mem_of_getElem? h1)
   rw [h3]
   exact ⟨by rw [o3,s6 h2]; exact this.1,yS h2 this.2⟩
  ·obtain ⟨e,m,h1,h2,rfl⟩:=hex i e' bF
   have jn:=(bj e (List.mem_of_getElem? h1)).1
   have hj:j < e.length:=by
    have :=(List.getElem?_eq_some_iff.1 hc).1
    rwa [o3,s6 h2] at this
   have hi:i < es.length:=(List.getElem?_eq_some_iff.1 h1).1
   have p9: ∀j,j < e.length→ ∃u,cur[i * sz+j]? =some u∧ ∀c,e[j]? =some c→aE w S ρ c u:=fun j hj=>by
    obtain ⟨u,hu,hr⟩:=cD i j hi (by omega)
    exact ⟨u,hu,fun c hc=>hr e c h1 hc⟩
   obtain ⟨us,nJ,gP⟩ : ∃us:List Value,us.length=e.length∧ ∀(j:Nat) (u:Value),us[j]? =some u→cur[i * sz+j]? =some u∧ ∀c,e[j]? =some c→aE w S ρ c u:=by
    refine ⟨(List.range e.length).map fun j=>if hj:j < e.length then (p9 j hj).choose else undef,by simp,fun j u hu=> ?_⟩
    have hj:j < e.length:=by
     have :=(List.getElem?_eq_some_iff.1 hu).1
     simpa using this
    simp only [List.getElem?_map,List.getElem?_range hj,Option.map_some,Option.some.injEq,hj,dif_pos] at hu
    subst hu
    exact (p9 j hj).choose_spec
   have hL:=l5 (w:=w) (S:=S) hτ e m us h2 (aS.mk _ _ nJ fun j c u hc hu=>(gP j u hu).2 c hc)
   obtain ⟨u,hu,hr⟩:=aS.at _ _ hL j c hc
   exact ⟨u,(gP j u hu).1,hr⟩
theorem vp {τ:Nat→Nat} {x:DV} {o:Ob} (h:x.ll τ=some o) :x.Gi=true:=by
 unfold DV.ll at h
 split at h
 ·rfl
 ·rfl
 ·cases h
theorem yU {st:St} {R:List Nat} : ∀{l:List Nat} {m:aw},nc st R l=some m→m.length=l.length∧ ∀(i:Nat) (x:DV),m[i]? =some x→ ∃s o,l[i]? =some s∧st.aT s=some o∧o.enc R=some x
 | [],m,h=>by simp only [nc,Option.some.injEq] at h; subst h; simp
 | s::l,m,h=>by
  simp only [nc] at h
  cases hs:(st.aT s).bind (Ob.enc R) with
  | none=>simp [hs] at h
  | some x=>
   cases hl:nc st R l with
   | none=>simp [hs,hl] at h
   | some m'=>
    simp only [hs,hl,Option.some.injEq] at h
    subst h
    obtain ⟨h1,h2⟩:=yU hl
    obtain ⟨o,ho,hx⟩:=Option.bind_eq_some_iff.1 hs
    refine ⟨by simp [h1],fun i y hy=> ?_⟩
    cases i with
    | zero=>simp only [List.getElem?_cons_zero,Option.some.injEq] at hy; subst hy; exact ⟨s,o,rfl,ho,hx⟩
    | succ i=>simpa using h2 i y (by simpa using hy)
theorem vq {st:St} {R:List Nat} : ∀{l:List Nat} {m:aw},iM st R l=some m→m.length=l.length∧ ∀(i:Nat) (x:DV),m[i]? =some x→ ∃s,l[i]? =some s∧((st.aT s=none∧x= .bn)∨ ∃o,st.aT s=some o∧o.enc R=some x)
 | [],m,h=>by simp only [iM,Option.some.injEq] at h; subst h; simp
 | s::l,m,h=>by
  simp only [iM] at h
  cases hs:Ca st R s with
  | none=>simp [hs] at h
  | some x=>
   cases hl:iM st R l with
   | none=>simp [hs,hl] at h
   | some m'=>
    simp only [hs,hl,Option.some.injEq] at h
    subst h
    obtain ⟨h1,h2⟩:=vq hl
    refine ⟨by simp [h1],fun i y hy=> ?_⟩
    cases i with
    | zero=>
     simp only [List.getElem?_cons_zero,Option.some.injEq] at hy
     subst hy
     refine ⟨s,rfl,?_⟩
     unfold Ca at hs
     cases ho:st.aT s with
     | none=>simp only [ho,Option.some.injEq] at hs; exact .inl ⟨rfl,hs.symm⟩
     | some o=>simp only [ho] at hs; exact .inr ⟨o,rfl,hs⟩
    | succ i=>simpa using h2 i y (by simpa using hy)
mutual
theorem fZ: ∀(v:AV) (s:Nat),v.has s=true→s∈v.sites
 | .d _,s,h=>by simp [AV.has] at h
 | .undef,s,h=>by simp [AV.has] at h
 | .w _ _ v,s,h=>by simp only [AV.has] at h; simp only [AV.sites]; exact fZ v s h
 | .ah s' _ _ _,s,h=>by simp only [AV.has,beq_iff_eq] at h; simp [AV.sites,h]
 | .ptr s' _ _ _,s,h=>by simp only [AV.has,beq_iff_eq] at h; simp [AV.sites,h]
 | .mA s' _ _ _ _,s,h=>by simp only [AV.has,beq_iff_eq] at h; simp [AV.sites,h]
 | .func _ cs,s,h=>by simp only [AV.has] at h; simp only [AV.sites]; exact jb cs s h
 | .agg cs,s,h=>by simp only [AV.has] at h; simp only [AV.sites]; exact jb cs s h
 | .tuple cs,s,h=>by simp only [AV.has] at h; simp only [AV.sites]; exact jb cs s h
theorem jb: ∀(l:List AV) (s:Nat),eJ s l=true→s∈bo l
 | [],s,h=>by simp [eJ] at h
 | v::l,s,h=>by
  simp only [eJ,Bool.or_eq_true] at h
  simp only [bo,List.mem_append]
  rcases h with h | h
  ·exact .inl (fZ v s h)
  ·exact .inr (jb l s h)
end
mutual
theorem aE.agree {w:World} {S:Nat→Nat→Prop} {ρ ρ':Nat→Nat×Nat} : ∀(x:AV) (v:Value),(∀s,x.has s=true→ρ' s=ρ s)→aE w S ρ x v→aE w S ρ' x v
 | .d x,v,_,hx=>by simpa only [aE] using hx
 | .ah s' _ _ _,_,hs,hx=>by
  simp only [aE] at hx ⊢
  rw [hs s' (by simp [AV.has])]; exact hx
 | .ptr s' _ _ _,_,hs,hx=>by
  simp only [aE] at hx ⊢
  rw [hs s' (by simp [AV.has])]; exact hx
 | .mA s' _ _ _ _,_,hs,hx=>by
  simp only [aE] at hx ⊢
  rw [hs s' (by simp [AV.has])]; exact hx
 | .w _ _ _,_,_,_=>by simp only [aE]
 | .undef,_,_,_=>by simp only [aE]
 | .func f cs,v,hs,hx=>by
  simp only [AV.has] at hs
  simp only [aE] at hx ⊢
  obtain ⟨vs,h1,h2⟩:=hx
  exact ⟨vs,h1,aS.agree cs vs hs h2⟩
 | .agg cs,v,hs,hx=>by
  simp only [AV.has] at hs
  simp only [aE] at hx ⊢
  obtain ⟨vs,h1,h2⟩:=hx
  exact ⟨vs,h1,aS.agree cs vs hs h2⟩
 | .tuple cs,v,hs,hx=>by
  simp only [AV.has] at hs
  simp only [aE] at hx ⊢
  obtain ⟨vs,h1,h2⟩:=hx
  exact ⟨vs,h1,aS.agree cs vs hs h2⟩
theorem aS.agree {w:World} {S:Nat→Nat→Prop} {ρ ρ':Nat→Nat×Nat} : ∀(cs:List AV) (vs:List Value),(∀s,eJ s cs=true→ρ' s=ρ s)→aS w S ρ cs vs→aS w S ρ' cs vs
 | [],vs,_,hx=>by simpa only [aS] using hx
 | c::cs,vs,hs,hx=>by
  simp only [eJ,Bool.or_eq_true] at hs
  simp only [aS] at hx ⊢
  obtain ⟨u,us,h1,h2,h3⟩:=hx
  exact ⟨u,us,h1,aE.agree c u (fun s h=>hs s (.inl h)) h2,aS.agree cs us (fun s h=>hs s (.inr h)) h3⟩
end
theorem bO.agree {B:Nat→Prop} {w:World} {S:Nat→Nat→Prop} {ρ ρ':Nat→Nat×Nat} {s:Nat} {o:Ob} (hs:ρ' s=ρ s) (ho: ∀s',o.has s'=true→ρ' s'=ρ s') (h:bO B w S ρ s o) :bO B w S ρ' s o:=by
 cases o with
 | aC el sz es=>
  refine ⟨h.1,?_⟩
  rw [hs]
  exact h.2
 | mix el sz es=>
  refine ⟨h.1,?_⟩
  rw [hs]
  refine h.2.mono rfl h.2.apart fun i j u hu e c he hc=>aE.agree c u (fun s' h'=>ho s' ?_) (hu e c he hc)
  simp only [Ob.has,List.any_eq_true]
  exact ⟨e,List.mem_of_getElem? he,rY e s' c (List.mem_of_getElem? hc) h'⟩
theorem Je (s:Nat) (v:AV) :v.kill s= .undef∨(v.kill s=v∧v.has s=false):=by
 unfold AV.kill
 cases h:v.has s
 ·exact .inr ⟨rfl,rfl⟩
 ·exact .inl rfl
theorem fu: ∀(L:List Nat) (st:St) (n:Nat),(St.gu L st).env n= .undef∨((St.gu L st).env n=st.env n∧ ∀s∈L,(st.env n).has s=false)
 | [],st,n=> .inr ⟨rfl,by simp⟩
 | t::L,st,n=>by
  simp only [St.gu]
  rcases fu L (st.gE t) n with h | ⟨h1,h2⟩
  ·exact .inl h
  ·have he:(st.gE t).env n=(st.env n).kill t:=rfl
   rw [he] at h1 h2
   rcases Je t (st.env n) with h | ⟨h,hh⟩
   ·rw [h] at h1
    exact .inl h1
   ·rw [h] at h1 h2
    refine .inr ⟨h1,fun s hs=> ?_⟩
    rcases List.mem_cons.1 hs with rfl | hs
    ·exact hh
    ·exact h2 s hs
theorem jW: ∀(L:List Nat) (st:St) (n:Nat) (o:Ob),(St.gu L st).aT n=some o→st.aT n=some o∧n ∉ L∧ ∀s∈L,o.has s=false
 | [],st,n,o,h=>⟨h,by simp,by simp⟩
 | t::L,st,n,o,h=>by
  simp only [St.gu] at h
  obtain ⟨h1,h2,h3⟩:=jW L (st.gE t) n o h
  simp only [St.gE] at h1
  split at h1
  ·cases h1
  ·rename_i cu
   obtain ⟨o1,h4,h5⟩:=Option.bind_eq_some_iff.1 h1
   unfold Ob.kill at h5
   split at h5
   ·cases h5
   ·rename_i gQ
    cases h5
    refine ⟨h4,by simp [cu,h2],fun s hs=> ?_⟩
    rcases List.mem_cons.1 hs with rfl | hs
    ·simpa using gQ
    ·exact h3 s hs
theorem yV {τ:Nat→Nat} : ∀(os:aw) (k n:Nat) (o0:Option Ob) (o:Ob),St.uF.ye (ln τ k os) n o0=some o→(∃i y,os[i]? =some y∧n=τ (k+i)∧y.ll τ=some o)∨(o0=some o∧ ∀i,i < os.length→n≠τ (k+i))
 | [],k,n,o0,o,h=>by
  simp only [ln,St.uF.ye] at h
  exact .inr ⟨h,by simp⟩
 | x::os,k,n,o0,o,h=>by
  simp only [ln,St.uF.ye] at h
  cases hb:Nat.beq n (τ k) with
  | true=>
   simp only [hb,cond_true] at h
   exact .inl ⟨0,x,rfl,Nat.eq_of_beq_eq_true hb,h⟩
  | false=>
   simp only [hb,cond_false] at h
   rcases yV os (k+1) n o0 o h with ⟨i,y,h1,h2,h3⟩ | ⟨h1,h2⟩
   ·exact .inl ⟨i+1,y,by simpa using h1,by rw [h2]; congr 1; omega,h3⟩
   ·refine .inr ⟨h1,fun i hi=> ?_⟩
    cases i with
    | zero=>exact fun e=>by rw [e] at hb; simp at hb
    | succ i=>
     have :=h2 i (by simpa using hi)
     rwa [show k+1+i=k+ (i+1) by omega] at this
theorem l6 {τ:Nat→Nat} : ∀(n k i:Nat),i < n→(dK τ n k)[i]? =some (τ (k+i))
 | 0,k,i,h=>by omega
 | n+1,k,i,h=>by
  cases i with
  | zero=>rfl
  | succ i=>
   simp only [dK,List.getElem?_cons_succ]
   rw [l6 n (k+1) i (by omega)]
   congr 2
   omega
theorem mH {τ:Nat→Nat} : ∀(n k:Nat),(dK τ n k).length=n
 | 0,k=>rfl
 | n+1,k=>by simp [dK,mH n]
theorem CN {τ:Nat→Nat} {x:DV} {t:Nat} {want:Bool} {v:AV} (h:x.dec τ= .w t want v) :False:=by
 unfold DV.dec at h
 split at h<;>simp at h
section
variable {P:Program} {w0:dw} {S0:Nat→Nat→Prop} {N:Nat} {ρ:Nat→Nat×Nat} {S:Nat→Nat→Prop} {st st':St} {a:Act} {w:World} {call:FuncId→aw→aH}
 {K:Act→World→Prop} {Q:Exit→Act→World→Prop}
def Gm (st:St) (ρ:Nat→Nat×Nat) (S:Nat→Nat→Prop) (L:List Nat) :Nat→Nat→Prop:=fun b p=>S b p∨ ∃s o,s∈L∧st.aT s=some o∧b=(ρ s).1
theorem Inv.Bh (hI:Inv w0 S0 N ρ S st a w) (L:List Nat) :Inv w0 S0 N ρ (Gm st ρ S L) (St.gu L st) a w:=by
 have hk:Kept w w S (Gm st ρ S L):=⟨fun b p h=> .inl h,fun _ _ _ _ h=>h⟩
 refine ⟨hI.size,hI.defers,fun n=> ?_,fun n t' want v he hw=> ?_,fun n t' want v he hw=> ?_,fun n o hn=> ?_,fun n m o o' hn hm he=> ?_,fun b p hb=> ?_,fun b p h=> .inl (hI.up b p h),fun b p hb=> ?_,hI.below,hI.small,hI.pins⟩
 ·rcases fu L st n with h | ⟨h1,h2⟩
  ·rw [h]
   simp only [aE]
  ·rw [h1]
   exact aE.kept hk _ _ (hI.env n)
 ·rcases fu L st n with h | ⟨h1,h2⟩
  ·rw [h] at he
   cases he
  ·rw [h1] at he
   exact aE.kept hk _ _ (hI.fV n t' want v he hw)
 ·rcases fu L st n with h | ⟨h1,h2⟩
  ·rw [h] at he
   cases he
  ·rw [h1] at he
   exact hI.kx n t' want v he hw
 ·obtain ⟨h1,h2,h3⟩:=jW L st n o hn
  refine bO.kept hk (hI.aT n o h1) rfl fun p hp=> ?_
  rcases hp with hp | ⟨s,o',hs,QE,hb⟩
  ·exact (hI.aT n o h1).lt.2.2 p hp
  ·exact h2 (hI.apart n s o o' h1 QE hb ▸ hs)
 ·exact hI.apart n m o o' (jW L st n o hn).1 (jW L st m o' hm).1 he
 ·rcases hb with hb | ⟨s,o,_,hs,rfl⟩
  ·exact hI.live b p hb
  ·exact (hI.aT s o hs).lt.2.1
 ·rcases hb with hb | ⟨s,o,_,hs,rfl⟩
  ·exact hI.new b p hb
  ·exact .inr (hI.aT s o hs).lt.1
theorem s8: ∀(l:List AV) (s sz off n:Nat),AV.ah s sz off n∈l→s∈bo l
 | [],_,_,_,_,h=>by cases h
 | v::l,s,sz,off,n,h=>by
  simp only [bo,List.mem_append]
  rcases List.mem_cons.1 h with h | h
  ·rw [← h]
   exact .inl (by simp [AV.sites])
  ·exact .inr (s8 l s sz off n h)
theorem CO: ∀{rows:List (List AV)} {ds:aj},Ax st rows=some ds→ds.length=rows.length∧ ∀(i:Nat) (e:aw),ds[i]? =some e→ ∃r,rows[i]? =some r∧bm (wB st) r=some e
 | [],ds,h=>by simp only [Ax,Option.some.injEq] at h; subst h; simp
 | r::rows,ds,h=>by
  simp only [Ax] at h
  cases hr:bm (wB st) r with
  | none=>simp [hr] at h
  | some x=>
   cases hl:Ax st rows with
   | none=>simp [hr,hl] at h
   | some m=>
    simp only [hr,hl,Option.some.injEq] at h
    subst h
    obtain ⟨h1,h2⟩:=CO hl
    refine ⟨by simp [h1],fun i e he=> ?_⟩
    cases i with
    | zero=>simp only [List.getElem?_cons_zero,Option.some.injEq] at he; subst he; exact ⟨r,rfl,hr⟩
    | succ i=>simpa using h2 i e (by simpa using he)
theorem Gn (hI:Inv w0 S0 N ρ S st a w) {T e sz len:Nat} (hT:P.underlying T=some (.slice e)) (hs:cG P e=some sz) (iq:0 < sz) {z:aw} (hz:fC P e=some z)
  (wW:z.length=sz) (Fq:z.all DV.one=true) (ij:len * sz≤16777216) {parts:Array (Nat×Operand)} {pL:List (Nat×AX)} (hm:bm lz parts.toList=some pL) {rows:List (List AV)}
  (hr:dq st sz (List.replicate len (z.map .d)) pL=some rows) {ds:aj} (fi:Ax st rows=some ds) :
  ∃u w1 S',(Instr.buildSlice T len (parts.map fun (i,x)=>(i,a.eval x))).run P w= .ok u w1∧Inv w0 S0 N ρ S' (St.gu (rows.flatMap bo) st) a w1∧aW w1 S' (.sl .tight sz ds) u:=by
 obtain ⟨vs,bU,h2,qV,M3⟩:=nL hI hT hs iq hz wW Fq ij hm hr
 have CP:=hI.Bh (rows.flatMap bo)
 have hb:bJ (fun k=>k < w.heap.size) w (w.alloc (.cells vs.toArray e)):=(iA w _ (Nat.le_refl _) _).Ro fun _ h=>h
 let S1:=Gm st ρ S (rows.flatMap bo)
 have g8: ∀b o,(S1 b o∨b=w.heap.size)→b < (w.alloc (.cells vs.toArray e)).heap.size:=by
  have fW:(w.alloc (.cells vs.toArray e)).heap.size=w.heap.size+1:=by
   show (w.heap.push _).size=_
   simp
  rintro b o (h | rfl)
  ·have :=CP.live b o h
   omega
  ·omega
 have I':Kept w (w.alloc (.cells vs.toArray e)) S1 fun b o=>S1 b o∨b=w.heap.size:=kC CP hb fun _ _ h=> .inl h
 refine ⟨_,_,fun b o=>S1 b o∨b=w.heap.size,bU,CP.called hb (fun _ _ h=> .inl h) (fun b o h=>h.imp id fun h=>by omega) g8,?_⟩
 obtain ⟨M4,l7⟩:=CO fi
 simp only [aW]
 refine ⟨_,w.heap.size,0,len,by rw [M4,qV],fun _=>rfl,by omega,fun _=>by omega,gO.mk _ _ _ _ fun i e' bF=> ?_⟩
 obtain ⟨r,QI,hre⟩:=l7 i e' bF
 obtain ⟨jn,abU⟩:=ju hre
 have gA:=h2.2.1 r (List.mem_of_getElem? QI)
 refine ⟨by rw [jn]; exact gA.1,iS.mk _ _ _ fun j c hc=>⟨.inr rfl,?_⟩⟩
 have hj:j < r.length:=by rw [← jn]; exact (List.getElem?_eq_some_iff.1 hc).1
 obtain ⟨y,hy,Lx⟩:=abU j _ (List.getElem?_eq_getElem hj)
 rw [hc] at hy
 cases hy
 obtain ⟨u,hu,x6⟩:=h2.2.2 i j r _ QI (List.getElem?_eq_getElem hj)
 refine ⟨u,?_,aW.kept I' c u ?_⟩
 ·rw [Nat.zero_add,cell_of_row _ _ _ vs.toArray e (0,0) (en _ _)]
  simpa using hu
 ·generalize hv:r[j]=v at x6 Lx
  have mY:v∈r:=hv ▸ List.getElem_mem hj
  cases v<;>simp only [wB,reduceCtorEq] at Lx
  ·cases Lx
   simp only [aE] at x6
   exact fX (aW.kept ⟨fun b p h=> .inl h,fun _ _ _ _ h=>h⟩ _ _ x6)
  ·rename_i s bd off n
   split at Lx
   ·rename_i el cO es aZ
    split at Lx
    ·rename_i c8
     cases Lx
     have hsn:snap st (.ah s bd off n)=some (.sl .ro bd ((es.drop off).take n)):=by
      simp only [snap,bp,aZ]
      rw [if_pos c8]
     have Gp:s∈rows.flatMap bo:=List.mem_flatMap.2 ⟨r,List.mem_of_getElem? QI,s8 r s bd off n mY⟩
     have :=iW hI (S':=S1) (C:=fun s'=>s'=s) (fun b p h=> .inl h) (fun s' dp o ho p=> .inr ⟨s',o,by rw [dp]; exact Gp,ho,rfl⟩) (fun s' DW sz3 es' dp k7=>by
      rw [dp,aZ] at k7
      cases k7) 6 _ _ u hsn x6 (fun s' dp=>by
      have h:s=s':=by simpa [AV.has] using dp
      exact h.symm)
     exact this.F5 fun h=>by cases h
    ·cases Lx
   ·cases Lx
theorem w9 (hI:Inv w0 S0 N ρ S st a w) {R:List Nat} (hR:(R.all fun s=>(st.inner s).all R.contains)=true) {v:AV} {x:DV} {u:Value} (hv:v.sites.all R.contains=true) (h:snap st v=some x) (hr:aE w S ρ v u) :aW w (Gm st ρ S R) x u:=by
 refine iW hI (C:=fun s=>s∈R) (fun b p h=> .inl h) (fun s hs o ho p=> .inr ⟨s,o,hs,ho,rfl⟩) (fun s el sz es hs aZ e he c hc s' dp=> ?_) 6 v x u h hr fun s hs=> ?_
 ·have h1:=List.all_eq_true.1 hR s hs
  have h2:=List.all_eq_true.1 h1 s' (by
   simp only [St.inner,aZ]
   exact List.mem_flatMap.2 ⟨e,he,jb e s' (rY e s' c hc dp)⟩)
  simpa using h2
 ·have :=List.all_eq_true.1 hv s (fZ v s hs)
  simpa using this
theorem s9 (st:St) (R:List Nat) (v:AV) :v.fz st R= .undef∨(v.fz st R=v∧ ∀s,v.has s=true→s ∉ R)∨ ∃x,v.fz st R= .d x∧snap st v=some x∧v.sites.all R.contains=true:=by
 unfold AV.fz
 cases h1:v.sites.any R.contains with
 | false=>
  refine .inr (.inl ⟨rfl,fun s hs hm=> ?_⟩)
  rw [List.any_eq_false] at h1
  exact h1 s (fZ v s hs) (by simpa using hm)
 | true=>
  simp only [cond_true]
  cases h2:v.sites.all R.contains with
  | false=>exact .inl rfl
  | true=>
   simp only [cond_true]
   cases h3:snap st v with
   | none=>exact .inl rfl
   | some x=>exact .inr (.inr ⟨x,rfl,rfl,trivial⟩)
theorem Inv.mC (hI:Inv w0 S0 N ρ S st a w) {R:List Nat} (hR:(R.all fun s=>(st.inner s).all R.contains)=true) :Inv w0 S0 N ρ (Gm st ρ S R) (st.mC R) a w:=by
 have hL:=hI.Bh R
 have hk:Kept w w S (Gm st ρ S R):=⟨fun b p h=> .inl h,fun _ _ _ _ h=>h⟩
 have hw: ∀n t' want v,(st.mC R).env n= .w t' want v→st.env n= .w t' want v:=fun n t' want v he=>by
  have bF:(st.env n).fz st R= .w t' want v:=he
  rcases s9 st R (st.env n) with h | ⟨h,_⟩ | ⟨x,h,_⟩
  ·rw [h] at bF; cases bF
  ·rwa [h] at bF
  ·rw [h] at bF; cases bF
 refine ⟨hI.size,hI.defers,fun n=> ?_,fun n t' want v he h=>aE.kept hk _ _ (hI.fV n t' want v (hw _ _ _ _ he) h),fun n t' want v he h=>hI.kx n t' want v (hw _ _ _ _ he) h,hL.aT,hL.apart,hL.live,hL.up,hL.new,hI.below,hI.small,hI.pins⟩
 show aE w _ ρ ((st.env n).fz st R) _
 rcases s9 st R (st.env n) with h | ⟨h,_⟩ | ⟨x,h,h1,h2⟩
 ·rw [h]; simp only [aE]
 ·rw [h]; exact aE.kept hk _ _ (hI.env n)
 ·rw [h]
  simp only [aE]
  exact w9 hI hR h2 h1 (hI.env n)
theorem RB (hI:Inv w0 S0 N ρ S st a w) {R:List Nat} (hR:(R.all fun s=>(st.inner s).all R.contains)=true) {B:Nat→Prop} {s:Nat} {o o':Ob} (h:bO B w S ρ s o) (hs: ∀p,¬ Gm st ρ S R (ρ s).1 p) (ho:o.fz st R=some o') :bO B w (Gm st ρ S R) ρ s o':=by
 have hk:Kept w w S (Gm st ρ S R):=⟨fun b p h=> .inl h,fun _ _ _ _ h=>h⟩
 cases o with
 | aC el sz es=>
  simp only [Ob.fz,Option.some.injEq] at ho
  subst ho
  exact bO.kept hk h rfl hs
 | mix el sz es=>
  simp only [Ob.fz] at ho
  cases fp:(es.map fun e=>e.map (AV.fz st R)).all fun e=>e.all AV.one with
  | false=>simp [fp] at ho
  | true=>
   simp only [fp,cond_true,Option.some.injEq] at ho
   subst ho
   obtain ⟨bj,cR⟩:=h
   obtain ⟨cur,cS,sU,cD⟩:=cR.here
   refine lY (blk:=(ρ s).1) (cap:=(ρ s).2) (cur:=cur) rfl cR.base cS sU (by simpa using cR.fits) cR.len hs (fun e' bF=> ?_) fun i j e' c bF hc=> ?_
   ·obtain ⟨e,he,rfl⟩:=List.mem_map.1 bF
    exact ⟨by simpa using (bj e he).1,List.all_eq_true.1 fp _ bF⟩
   ·simp only [List.getElem?_map,Option.map_eq_some_iff] at bF
    obtain ⟨e,he,rfl⟩:=bF
    simp only [List.getElem?_map,Option.map_eq_some_iff] at hc
    obtain ⟨c0,qU,rfl⟩:=hc
    have jn:=(bj e (List.mem_of_getElem? he)).1
    obtain ⟨u,hu,hr⟩:=cD i j (List.getElem?_eq_some_iff.1 he).1 (by rw [← jn]; exact (List.getElem?_eq_some_iff.1 qU).1)
    refine ⟨u,hu,?_⟩
    have uz:=hr e c0 he qU
    rcases s9 st R c0 with h | ⟨h,_⟩ | ⟨x,h,h1,h2⟩
    ·rw [h]; simp only [aE]
    ·rw [h]; exact aE.kept hk _ _ uz
    ·rw [h]
     simp only [aE]
     exact w9 hI hR h2 h1 uz
theorem Inv.uW (hI:Inv w0 S0 N ρ S st a w) {R:List Nat} (hR:(R.all fun s=>(st.inner s).all R.contains)=true) :Inv w0 S0 N ρ (Gm st ρ S R) (st.uW R) a w:=by
 have hL:=hI.Bh R
 have aZ: ∀n o,(st.uW R).aT n=some o→n ∉ R∧ ∃o1,st.aT n=some o1∧o1.fz st R=some o:=fun n o hn=>by
  have El:cond (R.contains n) none ((st.aT n).bind (Ob.fz st R))=some o:=hn
  cases hc:R.contains n with
  | true=>rw [hc] at El; cases El
  | false=>
   rw [hc] at El
   simp only [cond_false,Option.bind_eq_some_iff] at El
   exact ⟨by simpa using hc,El⟩
 refine ⟨hI.size,hI.defers,hL.env,hL.fV,hL.kx,fun n o hn=> ?_,fun n m o o' hn hm he=> ?_,hL.live,hL.up,hL.new,hI.below,hI.small,hI.pins⟩
 ·obtain ⟨hnR,o1,h1,h2⟩:=aZ n o hn
  refine RB hI hR (hI.aT n o1 h1) (fun p hp=> ?_) h2
  rcases hp with hp | ⟨s,o',hs,QE,hb⟩
  ·exact (hI.aT n o1 h1).lt.2.2 p hp
  ·exact hnR (hI.apart n s o1 o' h1 QE hb ▸ hs)
 ·obtain ⟨_,o1,h1,_⟩:=aZ n o hn
  obtain ⟨_,o2,h2,_⟩:=aZ m o' hm
  exact hI.apart n m o1 o2 h1 h2 he
theorem Inv.tidy (hI:Inv w0 S0 N ρ S st a w) (T:List Nat) : ∃S',(∀b p,S b p→S' b p)∧Inv w0 S0 N ρ S' (st.tidy T) a w:=by
 unfold St.tidy
 cases hc:DY st (st.nv T) with
 | false=>exact ⟨S,fun _ _ h=>h,hI⟩
 | true=>
  simp only [DY,Bool.and_eq_true] at hc
  exact ⟨_,fun b p h=> .inl h,hI.uW hc.2⟩
theorem Inv.Gq (hI:Inv w0 S0 N ρ S st a w) {R:List Nat} (hR: ∀j s:Nat,R[j]? =some s→ ∃o,st.aT s=some o) {t:Nat} (ht:t % 100000≠99999) {dst:Option Nat} (hd: ∀d,dst=some d→d < N) {x:DV} {os:aw} {v:Value} {w':World} {S':Nat→Nat→Prop} {fq:Nat→Nat×Nat}
  (ho:kG w S R.length (fun j=>ρ (R.getD j 0)) x os v w' S' fq) (h:qP R t dst (.gi [x] os) st=some st') :cF w0 S0 N st' (a.put dst v) w':=by
 simp only [qP] at h
 generalize FI R t os.length=b at h
 cases hc:Nat.ble R.length os.length&&nodup (dK (jL R t b) os.length 0) with
 | false=>simp [hc] at h
 | true=>
  simp only [hc,cond_true,Option.some.injEq] at h
  simp only [Bool.and_eq_true] at hc
  have hle:R.length≤os.length:=Nat.le_of_ble_eq_true hc.1
  have nj:=(nodup_iff _).1 hc.2
  generalize hτ:jL R t b=τ at h nj
  obtain ⟨ρ3,hρ3⟩ : ∃g:Nat→Nat×Nat,∀n,g n=match idxOf (dK τ os.length 0) n with | some j=>fq j | none=>ρ n:=⟨_,fun _=>rfl⟩
  have hT: ∀j,j < os.length→ρ3 (τ j)=fq j:=fun j hj=>by
   have h1:(dK τ os.length 0)[j]? =some (τ j):=by
    have :=l6 (τ:=τ) os.length 0 j hj
    rwa [Nat.zero_add] at this
   rw [hρ3,jV nj h1]
  have hRτ: ∀j s,R[j]? =some s→τ j=s:=fun j s hj=>by rw [← hτ]; simp only [jL,hj]
  have dZ: ∀j s,R[j]? =some s→j < R.length:=fun j s hj=>(List.getElem?_eq_some_iff.1 hj).1
  have abV: ∀j s,R[j]? =some s→fq j=ρ s:=fun j s hj=>by
   rw [ho.same j (dZ j s hj)]
   simp only [List.getD_eq_getElem?_getD,hj,Option.getD_some]
  have jR: ∀j,R.length≤j→j < os.length→τ j=t+100000 * (j+1+b)∧τ j∈dK τ (os.length - R.length) R.length:=fun j h1 h2=>by
   refine ⟨?_,?_⟩
   ·rw [← hτ]
    simp only [jL,List.getElem?_eq_none h1]
   ·have :=l6 (τ:=τ) (os.length - R.length) R.length (j - R.length) (by omega)
    rw [show R.length+ (j - R.length)=j by omega] at this
    exact List.mem_of_getElem? this
  have hρ: ∀n,(n ∉ dK τ (os.length - R.length) R.length)→ρ3 n=ρ n:=fun n hn=>by
   rw [hρ3]
   cases hi:idxOf (dK τ os.length 0) n with
   | none=>rfl
   | some j=>
    have hj:=kI hi
    have QD:j < os.length:=by
     have :=(List.getElem?_eq_some_iff.1 hj).1
     rwa [mH] at this
    have h1:=l6 (τ:=τ) os.length 0 j QD
    rw [Nat.zero_add] at h1
    have he:τ j=n:=by
     have :=hj.symm.trans h1
     exact (Option.some.inj this).symm
    by_cases hjR:j < R.length
    ·have h2:=abV j _ (List.getElem?_eq_getElem hjR)
     rw [show R[j]=n from by rw [← he]; exact (hRτ j _ (List.getElem?_eq_getElem hjR)).symm] at h2
     exact h2
    ·exact absurd (he ▸ (jR j (by omega) QD).2) hn
  have Gr: ∀j,j < R.length→ ¬ w0.gz (ρ (R.getD j 0)).1∧(∀p,¬ S (ρ (R.getD j 0)).1 p):=fun j hj=>by
   obtain ⟨o,hs⟩:=hR j _ (List.getElem?_eq_getElem hj)
   have :=(hI.aT _ _ hs).lt
   rw [List.getD_eq_getElem?_getD,List.getElem?_eq_getElem hj,Option.getD_some]
   exact ⟨this.1,this.2.2⟩
  have hk:Kept w w' S S':=⟨ho.up,fun b p hb u hu=>by
   rw [World.cell?] at hu ⊢
   rw [ho.below.block b ⟨hI.live b p hb,fun j hj e=>(Gr j hj).2 p (by simpa only using (show b=(ρ (R.getD j 0)).1 from e) ▸ hb)⟩]; exact hu⟩
  have Gs: ∀k,¬ kF w R.length (fun j=>ρ (R.getD j 0)) k→ ¬ w0.gz k:=fun k hk ho=>by
   refine hk ⟨Nat.lt_of_lt_of_le (w0.lt k ho) hI.below.size,fun j hj e=>(Gr j hj).1 ?_⟩
   have e':k=(ρ (R.getD j 0)).1:=e
   exact e' ▸ ho
  let st2:=(St.gu (dK τ (os.length - R.length) R.length) st).uF (ln τ 0 os)
  have aZ: ∀n o,st2.aT n=some o→(∃i y,os[i]? =some y∧n=τ i∧y.ll τ=some o)∨(st.aT n=some o∧n ∉ dK τ (os.length - R.length) R.length∧(∀s∈dK τ (os.length - R.length) R.length,o.has s=false)∧(∀j s:Nat,R[j]? =some s→n≠s)):=by
   intro n o hn
   rcases yV os 0 n _ o hn with ⟨i,y,h1,h2,h3⟩ | ⟨h1,h2⟩
   ·exact .inl ⟨i,y,h1,by rw [h2,Nat.zero_add],h3⟩
   ·obtain ⟨g1,g2,g3⟩:=jW _ st n o h1
    refine .inr ⟨g1,g2,g3,fun j s hj e=> ?_⟩
    have :=h2 j (Nat.lt_of_lt_of_le (dZ j s hj) hle)
    rw [Nat.zero_add,hRτ j s hj] at this
    exact this e
  have hold: ∀n o,st.aT n=some o→(∀j s:Nat,R[j]? =some s→n≠s)→kF w R.length (fun j=>ρ (R.getD j 0)) (ρ n).1:=fun n o hn cu=>by
   refine ⟨(hI.aT n o hn).lt.2.1,fun j hj e=> ?_⟩
   obtain ⟨o2,hs⟩:=hR j _ (List.getElem?_eq_getElem hj)
   have e':(ρ n).1=(ρ R[j]).1:=by
    have :(ρ n).1=(ρ (R.getD j 0)).1:=e
    rwa [List.getD_eq_getElem?_getD,List.getElem?_eq_getElem hj,Option.getD_some] at this
   exact cu j _ (List.getElem?_eq_getElem hj) (hI.apart n _ o o2 hn hs e')
  have Lu: ∀i y o,os[i]? =some y→y.ll τ=some o→bO (kF w R.length (fun j=>ρ (R.getD j 0))) w' S' ρ3 (τ i) o:=fun i y o h1 h2=>ho.uF τ ρ3 hT i y o h1 h2
  have sS:Inv w0 S0 N ρ3 S' st2 a w':=by
   refine ⟨hI.size,hI.defers,fun n=> ?_,fun n t' want v he hw=> ?_,fun n t' want v he hw=> ?_,fun n o hn=> ?_,fun n m o o' hn hm he=> ?_,ho.live,fun b p h=>ho.up b p (hI.up b p h),fun b p h=> ?_,hI.below.trans (ho.below.mono fun k hk=> ?_),hI.small,fun n hn=> ?_⟩
   ·rcases fu (dK τ (os.length - R.length) R.length) st n with h | ⟨h1,h2⟩
    ·show aE w' S' ρ3 ((St.gu _ st).env n) _
     rw [h]
     simp only [aE]
    ·show aE w' S' ρ3 ((St.gu _ st).env n) _
     rw [h1]
     refine aE.agree _ _ (fun s hs=>hρ s fun hm=> ?_) (aE.kept hk _ _ (hI.env n))
     rw [h2 s hm] at hs
     cases hs
   ·have bF:(St.gu (dK τ (os.length - R.length) R.length) st).env n= .w t' want v:=he
    rcases fu (dK τ (os.length - R.length) R.length) st n with h | ⟨h1,h2⟩
    ·rw [h] at bF
     cases bF
    ·rw [h1] at bF
     refine aE.agree _ _ (fun s hs=>hρ s fun hm=> ?_) (aE.kept hk _ _ (hI.fV n t' want v bF hw))
     have :=h2 s hm
     rw [bF] at this
     simp only [AV.has] at this
     rw [this] at hs
     cases hs
   ·have bF:(St.gu (dK τ (os.length - R.length) R.length) st).env n= .w t' want v:=he
    rcases fu (dK τ (os.length - R.length) R.length) st n with h | ⟨h1,h2⟩
    ·rw [h] at bF
     cases bF
    ·rw [h1] at bF
     exact hI.kx n t' want v bF hw
   ·rcases aZ n o hn with ⟨i,y,h1,rfl,h3⟩ | ⟨h1,h2,h3,h4⟩
    ·have :=Lu i y o h1 h3
     exact this.Na (Gs _ this.lt.1)
    ·have hl:=hI.aT n o h1
     have Iz:bO w0.gz w' S' ρ n o:=by
      refine bO.kept hk hl (ho.below.block _ (hold n o h1 h4)) fun p hp=> ?_
      rcases ho.new _ _ hp with h | h
      ·exact hl.lt.2.2 p h
      ·exact h (hold n o h1 h4)
     refine Iz.agree (hρ n h2) fun s hs=>hρ s fun hm=> ?_
     rw [h3 s hm] at hs
     cases hs
   ·have mixed: ∀i y o n o',os[i]? =some y→y.ll τ=some o→st.aT n=some o'→n ∉ dK τ (os.length - R.length) R.length→(∀j s:Nat,R[j]? =some s→n≠s)→(ρ3 (τ i)).1≠(ρ3 n).1:=by
     intro i y o n o' h1 h2 h3 h4 h5 e
     rw [hρ n h4] at e
     exact (Lu i y o h1 h2).lt.1 (e ▸ hold n o' h3 h5)
    rcases aZ n o hn with ⟨i,y,h1,rfl,h3⟩ | ⟨h1,h2,h3,h4⟩
    ·rcases aZ m o' hm with ⟨j,z,g1,rfl,g3⟩ | ⟨g1,g2,g3,g4⟩
     ·rw [hT i (List.getElem?_eq_some_iff.1 h1).1,hT j (List.getElem?_eq_some_iff.1 g1).1] at he
      rw [ho.apart i j y z h1 g1 (vp h3) (vp g3) he]
     ·exact absurd he (mixed i y o m o' h1 h3 g1 g2 g4)
    ·rcases aZ m o' hm with ⟨j,z,g1,rfl,g3⟩ | ⟨g1,g2,g3,g4⟩
     ·exact absurd he.symm (mixed j z o' n o g1 g3 h1 h2 h4)
     ·rw [hρ n h2,hρ m g2] at he
      exact hI.apart n m o o' h1 g1 he
   ·rcases ho.new b p h with h | h
    ·exact hI.new b p h
    ·exact .inr (Gs b h)
   ·exact ⟨Nat.lt_of_lt_of_le (w0.lt k hk) hI.below.size,fun j hj e=>(Gr j hj).1 (by
     have e':k=(ρ (R.getD j 0)).1:=e
     exact e' ▸ hk)⟩
   ·rw [hρ n fun hm=> ?_]
    ·exact hI.pins n hn
    ·obtain ⟨i,hi,he⟩:=List.getElem_of_mem hm
     rw [mH] at hi
     have h1:=l6 (τ:=τ) (os.length - R.length) R.length i hi
     rw [List.getElem?_eq_getElem (by rw [mH]; exact hi),he] at h1
     have h2:=(jR (R.length+i) (by omega) (by omega)).1
     have h3:n=t+100000 * (R.length+i+1+b):=(Option.some.inj h1).trans h2
     omega
  obtain ⟨S3,hS3,hI3⟩:=sS.tidy (dK τ os.length 0)
  subst h
  cases dst with
  | none=>exact ⟨ρ3,S3,hI3⟩
  | some d=>
   refine ⟨ρ3,S3,hI3.put (hd d rfl) (aE.kept ⟨hS3,fun _ _ _ _ h=>h⟩ _ _ (ho.res τ ρ3 hT)) fun t' want y he=>CN he⟩
theorem yW (hI:Inv w0 S0 N ρ S st a w) (aJ:dc P call) {f:FuncId} {o:Oper} (hd: ∀d,o.dst=some d→d < N) {avs:List AV} {vs:List Value} {R:List Nat} {d r:DV} (hl:aS w S ρ avs vs)
  (jc:sm st avs=some (R,d)) (bU:(execOp a.eval o).run P w=(callFunc f vs.toArray).run P w) (hr:call f (pad d)=some r) (gn:qP R (o.dst.getD 49998) o.dst r st=some st')
  (hK: ∀a' w',cF w0 S0 N st' a' w'→K a' w') :o.wp P a w K Q:=by
 have ht:(o.dst.getD 49998) % 100000≠99999:=by
  cases cz:o.dst with
  | none=>simp
  | some d=>
   exact hI.fl (hd d cz)
 unfold sm at jc
 simp only at jc
 generalize reach st 60 (names avs) []=R' at jc
 split at jc
 ·rename_i xs os As hos
  cases hn:nodup R' with
  | false=>simp [hn] at jc
  | true=>
   simp only [hn,cond_true,Option.some.injEq,Prod.mk.injEq] at jc
   obtain ⟨rfl,rfl⟩:=jc
   have nj:=(nodup_iff _).1 hn
   obtain ⟨QK,QL⟩:=yU hos
   have hR: ∀j s,R'[j]? =some s→ ∃o,st.aT s=some o:=fun j s hj=>by
    have dZ:j < os.length:=by rw [QK]; exact (List.getElem?_eq_some_iff.1 hj).1
    obtain ⟨s',o,h1,h2,_⟩:=QL j _ (List.getElem?_eq_getElem dZ)
    rw [hj] at h1
    cases h1
    exact ⟨o,h2⟩
   have hfi:Bf w S xs os vs (fun j=>ρ (R'.getD j 0)):=by
    have conv: ∀(τ:Nat→Nat) (ρ':Nat→Nat×Nat),(∀j,j < os.length→ρ' (τ j)=ρ (R'.getD j 0))→ ∀j s,R'[j]? =some s→ρ' (τ j)=ρ s:=fun τ ρ' h j s hj=>by
     rw [h j (by rw [QK]; exact (List.getElem?_eq_some_iff.1 hj).1),List.getD_eq_getElem?_getD,hj,Option.getD_some]
    refine ⟨fun τ ρ' h=>l5 (conv τ ρ' h) _ _ _ As hl,fun τ ρ' h j y o hy hdo=> ?_,fun i j hi hj he=> ?_⟩
    ·obtain ⟨s,o1,h1,h2,h3⟩:=QL j y hy
     exact Gl (conv τ ρ' h) (conv τ ρ' h j s h1) ((hI.aT s o1 h2).Na fun h=>h) h3 hdo
    ·rw [QK] at hi hj
     obtain ⟨o1,h1⟩:=hR i _ (List.getElem?_eq_getElem hi)
     obtain ⟨o2,h2⟩:=hR j _ (List.getElem?_eq_getElem hj)
     have bF:(ρ (R'.getD i 0)).1=(ρ (R'.getD j 0)).1:=he
     rw [List.getD_eq_getElem?_getD,List.getElem?_eq_getElem hi,Option.getD_some,List.getD_eq_getElem?_getD,List.getElem?_eq_getElem hj,Option.getD_some] at bF
     have :=hI.apart _ _ o1 o2 h1 h2 bF
     have h3:=jV nj (List.getElem?_eq_getElem hi)
     have h4:=jV nj (List.getElem?_eq_getElem hj)
     rw [this] at h3
     exact Option.some.inj (h3.symm.trans h4)
   have Gq:=gn
   unfold qP at gn
   split at gn
   ·rename_i x x5
    have qd:=aJ.gi f xs os x x5 hr w vs S _ hfi hI.live
    have fin: ∀v w' S' fq,kG w S os.length (fun j=>ρ (R'.getD j 0)) x x5 v w' S' fq→cF w0 S0 N st' (a.put o.dst v) w':=by
     intro v w' S' fq ho
     rw [QK] at ho
     exact hI.Gq hR ht hd ho Gq
    unfold Oper.wp
    rcases qd with ⟨⟨fn,hU,gC,jX⟩,hc⟩ | ⟨v,w',F6,S',fq,hp⟩
    ·have jd:(callFunc f vs.toArray).run P w= .ok (.enter f vs.toArray) w:=by
      simp only [callFunc,Sem.run_bind,run_program,Result.andThen_ok,hU,gC,jX,Bool.false_eq_true,if_false,Sem.run_pure]
     rw [bU,jd]
     rw [Oper.upon_enter]
     refine hc.mono fun e w' he=> ?_
     obtain ⟨v,rfl,S',fq,hp⟩:=he
     exact hK _ _ (fin v w' S' fq hp)
    ·rw [bU,F6]
     exact hK _ _ (fin v w' S' fq hp)
   ·cases gn
 ·cases jc
end
end Go.Proofs.YtglbgfcegifeeaaGreat.Vm
