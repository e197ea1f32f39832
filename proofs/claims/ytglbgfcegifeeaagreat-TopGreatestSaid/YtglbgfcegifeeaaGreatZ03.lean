/- Each operation of the translated code does what the pure machine says. No condition. -/
import Derived.Test.YtglbgfcegifeeaaGreatZ02
set_option linter.unusedVariables false
set_option linter.unusedSimpArgs false
set_option linter.unusedSectionVars false
namespace Go.Proofs.YtglbgfcegifeeaaGreat.Vm
open Go Go.RowKit
section
variable {P:Program} {w0:dw} {S0:Nat→Nat→Prop} {N:Nat} {ρ:Nat→Nat×Nat} {S:Nat→Nat→Prop} {st st':St} {a:Act} {w:World} {call:FuncId→aw→aH}
 {K:Act→World→Prop} {Q:Exit→Act→World→Prop}
theorem ep {o:Oper} {u:Value} {w1:World} (hr:(execOp a.eval o).run P w= .ok (.value u) w1) (h:K (a.put o.dst u) w1) :o.wp P a w K Q:=by
 unfold Oper.wp
 rw [hr]
 exact h
theorem ta {o:Oper} {w1:World} (hr:(execOp a.eval o).run P w= .ok .skip w1) (h:K (a.put o.dst undef) w1) :o.wp P a w K Q:=by
 unfold Oper.wp
 rw [hr]
 exact h
theorem xa (hI:Inv w0 S0 N ρ S st a w) {o:Oper} {op:bN} (hd: ∀d,o.dst=some d→d < N) (h:aK call o.dst op st=some st') (hK: ∀a' w',cF w0 S0 N st' a' w'→K a' w')
  (jx: ∀t,aK call (some t) op st=(bw st op).map fun v=>st.put t v.strip) (sN:aK call none op st=none)
  (hv: ∀av,bw st op=some av→ ∃u,(execOp a.eval o).run P w= .ok (.value u) w∧aE w S ρ av u) :o.wp P a w K Q:=by
 cases cz:o.dst with
 | none=>rw [cz,sN] at h; cases h
 | some t=>
  rw [cz,jx t] at h
  simp only [Option.map_eq_some_iff] at h
  obtain ⟨av,da,rfl⟩:=h
  obtain ⟨u,hr,hu⟩:=hv av da
  refine ep hr (hK _ _ ⟨ρ,S,?_⟩)
  rw [cz]
  exact hI.put (hd t cz) hu.strip (fun t' want x he=>by cases av<;>simp [AV.strip] at he)
theorem tc {o:Oper} {t:Nat} (cz:o.dst=some t) (hK: ∀a' w',cF w0 S0 N st' a' w'→K a' w')
  (hv: ∃u w1,(execOp a.eval o).run P w= .ok (.value u) w1∧cF w0 S0 N st' (a.put (some t) u) w1) :o.wp P a w K Q:=by
 obtain ⟨u,w1,hr,hi⟩:=hv
 refine ep hr (hK _ _ ?_)
 rw [cz]
 exact hi
theorem ga (hI:Inv w0 S0 N ρ S st a w) {t:Nat} {b:Bool} (h:st.env t= .d (.bool b)) :a.tmps[t]? =some (.bool b):=by
 have h1:=ky (hI.env t) h
 rw [Array.getD_eq_getD_getElem?] at h1
 cases hx:a.tmps[t]? with
 | none=>rw [hx] at h1; simp [undef] at h1
 | some v=>rw [hx] at h1; simp at h1; rw [h1]
theorem Inv.under (hI:Inv w0 S0 N ρ S st a w) {t:Nat} {want:Bool} (ht:a.tmps[t]? =some (.bool want)) :Inv w0 S0 N ρ S (st.under t want) a w:=by
 refine ⟨hI.size,hI.defers,fun n=> ?_,fun n t' ck v he h=> ?_,fun n t' ck v he h=> ?_,hI.aT,hI.apart,hI.live,hI.up,hI.new,hI.below,hI.small,hI.pins⟩
 ·simp only [St.under]
  have h1:=hI.env n
  cases he:st.env n<;>simp only [AV.un]<;>try (rw [he] at h1; exact h1)
  rename_i t' ck v
  split
  ·rename_i hc
   obtain ⟨rfl,rfl⟩:=hc
   exact (hI.fV n _ _ v he ht).strip
  ·simp only [aE]
 ·simp only [St.under] at he
  cases uI:st.env n<;>simp only [uI,AV.un,reduceCtorEq] at he
  rename_i t2 yK v2
  split at he
  ·cases v2<;>simp [AV.strip] at he
  ·cases he
   exact hI.fV n _ _ _ uI h
 ·simp only [St.under] at he
  cases uI:st.env n<;>simp only [uI,AV.un,reduceCtorEq] at he
  rename_i t2 yK v2
  split at he
  ·cases v2<;>simp [AV.strip] at he
  ·cases he
   exact hI.kx n _ _ _ uI h
theorem Inv.lj (hI:Inv w0 S0 N ρ S st a w) {t:Nat} {b:Bool} (ht:a.tmps[t]? =some (.bool b)) :Inv w0 S0 N ρ S (st.lj t b) a w:=by
 have hu:=hI.under ht
 refine ⟨hI.size,hI.defers,fun n=> ?_,fun n t' ck v he h=> ?_,fun n t' ck v he h=> ?_,hI.aT,hI.apart,hI.live,hI.up,hI.new,hI.below,hI.small,hI.pins⟩
 ·simp only [St.lj]
  split
  ·rename_i hn
   subst hn
   simp only [aE,aW,Array.getD_eq_getD_getElem?,ht,Option.getD_some]
  ·exact hu.env n
 ·simp only [St.lj] at he
  split at he
  ·cases he
  ·exact hu.fV n t' ck v he h
 ·simp only [St.lj] at he
  split at he
  ·cases he
  ·exact hu.kx n t' ck v he h
theorem Er {t:Nat} {want:Bool} (h:a.tmps[t]? =some (.bool want)) :a.tmps.getD t undef≠undef:=by
 simp [Array.getD_eq_getD_getElem?,h,undef]
theorem Gt (hI:Inv w0 S0 N ρ S st a w) {t t1:Nat} {want w1:Bool} {x:AV} (he:st.env t= .w t1 w1 x) (ht:a.tmps[t]? =some (.bool want)) :a.tmps[t1]? =some (.bool w1):=by
 false_or_by_contra
 rename_i h
 exact Er ht (hI.kx t t1 w1 x he h)
theorem kJ (hI:Inv w0 S0 N ρ S st a w) : ∀(up:List (Nat×Bool)) (t:Nat) (want:Bool) (h:St),st.iv t want up=some h→a.tmps[t]? =some (.bool want)→Inv w0 S0 N ρ S h a w
 | [],t,want,h,hh,ht=>by
  simp only [St.iv] at hh
  split at hh
  ·cases hh
   exact hI.under ht
  ·cases hh
 | (t',ck)::up,t,want,h,hh,ht=>by
  simp only [St.iv] at hh
  split at hh
  ·cases hh
   exact hI.under ht
  ·rename_i t1 w1 x he
   split at hh
   ·rename_i hc
    obtain ⟨rfl,rfl⟩:=hc
    simp only [Option.map_eq_some_iff] at hh
    obtain ⟨h0,hh0,rfl⟩:=hh
    exact (kJ hI up _ _ h0 hh0 (Gt hI he ht)).under ht
   ·cases hh
  ·cases hh
theorem kK (hI:Inv w0 S0 N ρ S st a w) : ∀(up:List (Nat×Bool)) (t:Nat) (want:Bool),st.dead t want up=true→a.tmps[t]? ≠some (.bool want)
 | [],t,want,hh,ht=>by
  simp only [St.dead] at hh
  split at hh
  ·rename_i b hb
   rw [ga hI hb] at ht
   simp only [Option.some.injEq,Value.bool.injEq] at ht
   subst ht
   simp at hh
  ·cases hh
 | (t',ck)::up,t,want,hh,ht=>by
  simp only [St.dead] at hh
  split at hh
  ·rename_i b hb
   rw [ga hI hb] at ht
   simp only [Option.some.injEq,Value.bool.injEq] at ht
   subst ht
   simp at hh
  ·rename_i t1 w1 x he
   simp only [Bool.and_eq_true,Bool.or_eq_true,decide_eq_true_eq] at hh
   obtain ⟨⟨rfl,rfl⟩,hh⟩:=hh
   have Jf:=Gt hI he ht
   rcases hh with hh | hh
   ·split at hh
    ·rename_i b
     have h1:=hI.fV t _ _ _ he Jf
     simp only [aE,aW,Array.getD_eq_getD_getElem?,ht,Option.getD_some,Value.bool.injEq] at h1
     subst h1
     simp at hh
    ·cases hh
   ·exact kK hI up _ _ hh Jf
  ·cases hh
theorem iD (hI:Inv w0 S0 N ρ S st a w) : ∀(up:List (Nat×Bool)) (t:Nat) (want r:Bool) (dD:St),st.branch t want up=some (r,dD)→Inv w0 S0 N ρ S dD a w∧(r=true↔a.tmps[t]? =some (.bool want))
 | [],t,want,r,dD,hh=>by
  simp only [St.branch] at hh
  split at hh
  ·rename_i b hb
   cases hh
   have ht:=ga hI hb
   exact ⟨hI.lj ht,by rw [ht]; simp⟩
  ·cases hh
 | (t',ck)::up,t,want,r,dD,hh=>by
  simp only [St.branch] at hh
  split at hh
  ·rename_i b hb
   cases hh
   have ht:=ga hI hb
   exact ⟨hI.lj ht,by rw [ht]; simp⟩
  ·rename_i t1 w1 x he
   split at hh
   ·rename_i hc
    obtain ⟨rfl,rfl⟩:=hc
    split at hh
    ·rename_i st2 hb
     obtain ⟨h1,h2⟩:=iD hI up _ _ _ _ hb
     split at hh
     ·rename_i b rW
      cases hh
      have ht:=ga h1 rW
      exact ⟨h1.lj ht,by rw [ht]; simp⟩
     ·cases hh
    ·rename_i st2 hb
     cases hh
     obtain ⟨h1,h2⟩:=iD hI up _ _ _ _ hb
     refine ⟨h1,?_⟩
     simp only [Bool.false_eq_true,false_iff]
     intro ht
     have :=h2.2 (Gt hI he ht)
     cases this
    ·cases hh
   ·cases hh
  ·cases hh
theorem rZ (hI:Inv w0 S0 N ρ S st a w) : ∀b o,uL st ρ S b o→b < w.heap.size:=by
 rintro b o (h | ⟨s,ob,hs,rfl⟩)
 ·exact hI.live b o h
 ·exact (hI.aT s ob hs).lt.2.1
theorem Inv.freeze (hI:Inv w0 S0 N ρ S st a w) :Inv w0 S0 N ρ (uL st ρ S) st.freeze a w:=by
 refine ⟨hI.size,hI.defers,fun t=> ?_,fun n t want v he _=> ?_,fun n t want v he _=> ?_,fun s o h=>by simp [St.freeze] at h,fun s s' o o' h=>by simp [St.freeze] at h,rZ hI,fun b o h=> .inl (hI.up b o h),?_,hI.below,hI.small,hI.pins⟩
 ·simp only [St.freeze]
  split
  ·rename_i x hx
   simp only [aE]
   exact snap_all hI hx (hI.env t)
  ·simp only [aE]
 ·simp only [St.freeze] at he
  split at he<;>cases he
 ·simp only [St.freeze] at he
  split at he<;>cases he
 ·rintro b o (h | ⟨s,ob,hs,rfl⟩)
  ·exact hI.new b o h
  ·exact .inr (hI.aT s ob hs).lt.1
theorem iX.plain {B:Nat→Prop} {S':Nat→Nat→Prop} {el sz g:Nat} {es:aj} {v:Value} (h:iX B w S el sz es v g) (hp:jr es=true) (hS: ∀o,¬ S' g o) :iX B w S' el sz es v g:=by
 obtain ⟨cap,h1,h2,h3⟩:=h
 refine ⟨cap,h1,h2,h3.mono rfl hS fun i j u hu e c he hc=> ?_⟩
 have :=qb e (sY es hp e (List.mem_of_getElem? he)) c (List.mem_of_getElem? hc)
 exact mG c u this.1 this.2 (hu e c he hc)
theorem cw.plain {B:Nat→Prop} {S':Nat→Nat→Prop} (hS: ∀g o,¬ B g→ ¬ S' g o) : ∀(rs:aw) (vs:List Value) (gs:List Nat),(∀r∈rs,r.plain=true)→cw B w S rs vs gs→cw B w S' rs vs gs
 | [],vs,gs,_,h=>by simpa only [cw] using h
 | r::rs,vs,gs,hp,h=>by
  have uC:=hp r (by simp)
  have hps: ∀r∈rs,r.plain=true:=fun r hr=>hp r (by simp [hr])
  by_cases dh: ∃el sz es,r= .sl (.own el) sz es
  ·obtain ⟨el,sz,es,rfl⟩:=dh
   simp only [cw] at h ⊢
   obtain ⟨v,eo,g,oW,rfl,rfl,ho,M9,iT⟩:=h
   exact ⟨v,eo,g,oW,rfl,rfl,ho.plain (by simpa only [DV.plain] using uC) (fun o=>hS g o ho.choose_spec.2.2.base),M9,cw.plain hS rs eo oW hps iT⟩
  ·have ni: ¬ ∃el sz es,r= .sl (.cT el) sz es:=by
    rintro ⟨el,sz,es,rfl⟩
    simp [DV.plain] at uC
   have ja: ∃v eo,vs=v::eo∧aW w S r v∧cw B w S rs eo gs:=by
    cases r<;>try (simpa only [cw] using h)
    rename_i k sz es
    cases k<;>first | (simpa only [cw] using h) | exact absurd ⟨_,_,_,rfl⟩ dh | exact absurd ⟨_,_,_,rfl⟩ ni
   obtain ⟨v,eo,rfl,h1,h2⟩:=ja
   have cR:r.dX=false:=by
    cases r<;>try rfl
    rename_i k sz es
    cases k<;>first | rfl | exact absurd ⟨_,_,_,rfl⟩ dh | exact absurd ⟨_,_,_,rfl⟩ ni
   have q6: ∃v' yX,v::eo=v'::yX∧aW w S' r v'∧cw B w S' rs yX gs:=⟨v,eo,rfl,mG r v uC cR h1,cw.plain hS rs eo gs hps h2⟩
   cases r<;>try (simpa only [cw] using q6)
   rename_i k sz es
   cases k<;>first | (simpa only [cw] using q6) | exact absurd ⟨_,_,_,rfl⟩ dh | exact absurd ⟨_,_,_,rfl⟩ ni
theorem kL: ∀(l:aw),iK l=true→ ∀r∈l,r.plain=true:=fun l h r hr=>(qb l h r hr).1
theorem jv.plain {B:Nat→Prop} {S':Nat→Nat→Prop} {r:DV} {v:Value} (hS: ∀g o,¬ B g→ ¬ S' g o) (hp:r.plain=true) (h:jv B w S r v) :jv B w S' r v:=by
 have other:r.dX=false→aW w S r v→aW w S' r v:=fun ho hr=>mG r v hp ho hr
 cases r with
 | sl k sz es=>
  cases k with
  | own el=>
   simp only [jv] at h ⊢
   obtain ⟨g,ho⟩:=h
   exact ⟨g,ho.plain (by simpa only [DV.plain] using hp) fun o=>hS g o ho.choose_spec.2.2.base⟩
  | cT el=>simp [DV.plain] at hp
  | ro=>simp [DV.plain] at hp
  | tight=>simp [DV.plain] at hp
 | tuple rs=>
  simp only [jv] at h ⊢
  obtain ⟨vs,gs,rfl,hl⟩:=h
  exact ⟨vs,gs,rfl,cw.plain hS rs vs gs (kL rs (by simpa only [DV.plain] using hp)) hl⟩
 | agg rs=>
  simp only [jv] at h ⊢
  obtain ⟨vs,gs,rfl,hl⟩:=h
  exact ⟨vs,gs,rfl,cw.plain hS rs vs gs (kL rs (by simpa only [DV.plain] using hp)) hl⟩
 | _=>exact other rfl h
theorem jv.dz {B:Nat→Prop} {S':Nat→Nat→Prop} {r:DV} {v:Value} (hS: ∀g o,¬ B g→ ¬ S' g o) (hp:r.dz=true) (h:jv B w S r v) :jv B w S' r v:=by
 cases r with
 | tuple rs=>
  simp only [jv] at h ⊢
  obtain ⟨vs,gs,rfl,hl⟩:=h
  exact ⟨vs,gs,rfl,cw.plain hS rs vs gs (List.all_eq_true.1 hp) hl⟩
 | agg rs=>
  simp only [jv] at h ⊢
  obtain ⟨vs,gs,rfl,hl⟩:=h
  exact ⟨vs,gs,rfl,cw.plain hS rs vs gs (List.all_eq_true.1 hp) hl⟩
 | _=>exact jv.plain hS hp h
theorem Jg: ∀{r:DV},r.plain=true→r.dz=true
 | .tuple vs,h=>by
  simp only [DV.dz,List.all_eq_true]
  exact kL vs (by simpa only [DV.plain] using h)
 | .agg vs,h=>by
  simp only [DV.dz,List.all_eq_true]
  exact kL vs (by simpa only [DV.plain] using h)
 | .int _ _,h=>h
 | .bool _,h=>h
 | .af,h=>h
 | .sl _ _ _,h=>h
 | .ag _ _ _,h=>h
 | .aI _ _,h=>h
 | .bn,h=>h
 | .func _ _,h=>h
 | .fN,h=>h
 | .mv _ _ _,h=>h
 | .gi _ _,h=>h
theorem iI {vs:List AV} {ds:aw} {us:List Value} (h:bm (snap st) vs=some ds) (hl:aS w S ρ vs us) {S':Nat→Nat→Prop} (hs: ∀v∈vs,∀x u,snap st v=some x→aE w S ρ v u→aW w S' x u) :cg w S' ds us:=by
 obtain ⟨h1,h2⟩:=ju h
 refine cg.mk _ _ (by rw [h1]; exact aS.length _ _ hl) fun i x u hx hu=> ?_
 have hi:i < vs.length:=by rw [← h1]; exact (List.getElem?_eq_some_iff.1 hx).1
 obtain ⟨y,hy,hf⟩:=h2 i _ (List.getElem?_eq_getElem hi)
 rw [hx] at hy
 simp only [Option.some.injEq] at hy
 subst hy
 obtain ⟨u',g7,hr⟩:=aS.at _ _ hl i _ (List.getElem?_eq_getElem hi)
 rw [hu] at g7
 simp only [Option.some.injEq] at g7
 subst g7
 exact hs _ (List.getElem_mem hi) x u hf hr
theorem nO (hI:Inv w0 S0 N ρ S st a w) (aJ:dc P call) {f:FuncId} {o:Oper} {t:Nat} (cz:o.dst=some t) (ht:t < N) {avs:List AV} {vs:List Value} {ds:aw} {r:DV}
  (hl:aS w S ρ avs vs) (fi: ∀S',(∀v∈avs,∀x u,snap st v=some x→aE w S ρ v u→aW w S' x u)→ ∃us:List Value,cg w S' ds us∧(execOp a.eval o).run P w=(callFunc f us.toArray).run P w)
  (hr:call f ds=some r) (gn:st'=FH t avs r st) (hK: ∀a' w',cF w0 S0 N st' a' w'→K a' w') :o.wp P a w K Q:=by
 have qd:=aJ.aC f ds r hr
 have finish: ∀(us:List Value),(execOp a.eval o).run P w=(callFunc f us.toArray).run P w→
   (oY P f us.toArray w fun v w'=>cF w0 S0 N st' (a.put (some t) v) w')→o.wp P a w K Q:=by
  intro us bU hc
  unfold Oper.wp
  rcases hc with ⟨⟨fn,hU,gC,jX⟩,hc⟩ | ⟨v,w',F6,hi⟩
  ·have jd:(callFunc f us.toArray).run P w= .ok (.enter f us.toArray) w:=by
    simp only [callFunc,Sem.run_bind,run_program,Result.andThen_ok,hU,gC,jX,Bool.false_eq_true,if_false,Sem.run_pure]
   rw [bU,jd]
   rw [Oper.upon_enter]
   refine hc.mono fun e w' he=> ?_
   obtain ⟨v,rfl,hi⟩:=he
   refine hK _ _ ?_
   rw [cz]
   exact hi
  ·rw [bU,F6]
   refine hK _ _ ?_
   rw [cz]
   exact hi
 subst gn
 unfold FH at finish
 by_cases mW:ba avs=true
 ·by_cases Nb:DX st (reach st 60 (names avs) []) avs=true
  ·have fD:=Nb
   simp only [DX,Bool.and_eq_true] at fD
   obtain ⟨us,gP,bU⟩:=fi (Gm st ρ S (reach st 60 (names avs) [])) fun v hv x u hx uz=>w9 hI fD.2 (List.all_eq_true.1 fD.1 v hv) hx uz
   have hF:=hI.mC fD.2
   refine finish us bU ((qd w us _ _ gP.args hF.live).mono fun v w' he=> ?_)
   obtain ⟨S',hp⟩:=he
   by_cases AY:r.dz=true
   ·simp only [mW,AY,Bool.not_true,Bool.and_false,Bool.false_eq_true,if_false]
    have e7:=hI.called hp.below (fun _ _ h=>h) (fun _ _ h=> .inl h) (fun b o h=>Nat.lt_of_lt_of_le (hI.live b o h) hp.below.size)
    refine fc e7 (fun k hk=>Nat.lt_of_lt_of_le (w0.lt k hk) hI.below.size) ht (hp.res.dz (fun g o hg h=> ?_) AY) fun s o hs=>(hI.aT s o hs).lt.2.1
    exact hg (hI.live g o h)
   ·simp only [mW,AY,Bool.not_false,Bool.and_self,if_true]
    have e7:=hF.called hp.below hp.up hp.new hp.live
    unfold St.oA
    rw [Nb]
    exact fc e7 (fun k hk=>Nat.lt_of_lt_of_le (w0.lt k hk) hI.below.size) ht hp.res fun s o hs=>(hF.aT s o hs).lt.2.1
  obtain ⟨us,gP,bU⟩:=fi (uL st ρ S) fun v _ x u hx hv=>snap_all hI hx hv
  refine finish us bU ((qd w us (uL st ρ S) _ gP.args (rZ hI)).mono fun v w' he=> ?_)
  obtain ⟨S',hp⟩:=he
  by_cases AY:r.dz=true
  ·simp only [mW,AY,Bool.not_true,Bool.and_false,Bool.false_eq_true,if_false]
   have e7:=hI.called hp.below (fun _ _ h=>h) (fun _ _ h=> .inl h) (fun b o h=>Nat.lt_of_lt_of_le (hI.live b o h) hp.below.size)
   refine fc e7 (fun k hk=>Nat.lt_of_lt_of_le (w0.lt k hk) hI.below.size) ht (hp.res.dz (fun g o hg h=> ?_) AY) fun s o hs=>(hI.aT s o hs).lt.2.1
   exact hg (hI.live g o h)
  ·simp only [mW,AY,Bool.not_false,Bool.and_self,if_true]
   have e7:=hI.freeze.called hp.below hp.up hp.new hp.live
   unfold St.oA
   cases fD:DX st (reach st 60 (names avs) []) avs with
   | true=>exact absurd fD Nb
   | false=>exact fc e7 (fun k hk=>Nat.lt_of_lt_of_le (w0.lt k hk) hI.below.size) ht hp.res fun s o hs=>by simp [St.freeze] at hs
 ·have CQ:ba avs=false:=by simpa using mW
  obtain ⟨us,gP,bU⟩:=fi S fun v hv x u hx uz=>qa hI hx uz (by
   have key: ∀(l:List AV),ba l=false→ ∀c∈l,c.eV=false:=by
    intro l
    induction l with
    | nil=>simp
    | cons y l ih=>
     intro h c hc
     simp only [ba,Bool.or_eq_false_iff] at h
     rcases List.mem_cons.1 hc with rfl | hc
     ·exact h.1
     ·exact ih h.2 c hc
   exact key avs CQ v hv)
  refine finish us bU ((qd w us S _ gP.args hI.live).mono fun v w' he=> ?_)
  obtain ⟨S',hp⟩:=he
  simp only [CQ,Bool.false_and,Bool.false_eq_true,if_false]
  have e7:=hI.called hp.below hp.up hp.new hp.live
  exact fc e7 (fun k hk=>Nat.lt_of_lt_of_le (w0.lt k hk) hI.below.size) ht hp.res fun s o hs=>(hI.aT s o hs).lt.2.1
theorem Inv.lost (hI:Inv w0 S0 N ρ S st a w) {s:Nat} {ob:Ob} (aZ:st.aT s=some ob) {w':World} {S':Nat→Nat→Prop} (hb:bJ (dw.Lp w (ρ s).1).gz w w') (Jf: ∀b p,S b p→S' b p) (jR: ∀b p,S' b p→S b p∨ ¬ (dw.Lp w (ρ s).1).gz b)
  (g8: ∀b p,S' b p→b < w'.heap.size) :Inv w0 S0 N ρ S' (st.gE s) a w':=by
 have hs:=(hI.aT s ob aZ).lt
 have hk:Kept w w' S S':=⟨Jf,fun b p Fo u hu=>by
  rw [World.cell?] at hu ⊢
  rw [hb.block b ⟨hI.live b p Fo,fun e=>hs.2.2 p (e ▸ Fo)⟩]; exact hu⟩
 have CR: ∀n o,(st.gE s).aT n=some o→n≠s∧st.aT n=some o:=by
  intro n o hn
  simp only [St.gE] at hn
  split at hn
  ·cases hn
  ·rename_i cu
   simp only [Option.bind_eq_some_iff] at hn
   obtain ⟨o1,h1,h2⟩:=hn
   unfold Ob.kill at h2
   split at h2
   ·cases h2
   ·cases h2
    exact ⟨cu,h1⟩
 have hold: ∀n o,(st.gE s).aT n=some o→(dw.Lp w (ρ s).1).gz (ρ n).1:=fun n o hn=>by
  obtain ⟨h1,h2⟩:=CR n o hn
  exact ⟨(hI.aT n o h2).lt.2.1,fun e=>h1 (hI.apart n s o ob h2 aZ e)⟩
 refine ⟨hI.size,hI.defers,fun n=> ?_,fun n t' want v he h=> ?_,fun n t' want v he h=> ?_,fun n o hn=> ?_,fun n m o o' hn hm he=> ?_,g8,fun b p h=>Jf b p (hI.up b p h),fun b p h=> ?_,hI.below.trans (hb.mono fun k hk=> ?_),hI.small,hI.pins⟩
 ·simp only [St.gE,AV.kill]
  split
  ·simp only [aE]
  ·exact aE.kept hk _ _ (hI.env n)
 ·simp only [St.gE,AV.kill] at he
  split at he
  ·cases he
  ·exact aE.kept hk _ _ (hI.fV n t' want v he h)
 ·simp only [St.gE,AV.kill] at he
  split at he
  ·cases he
  ·exact hI.kx n t' want v he h
 ·obtain ⟨h1,h2⟩:=CR n o hn
  have h3:=hold n o hn
  refine bO.kept hk (hI.aT n o h2) (hb.block _ h3) fun p hp=> ?_
  rcases jR _ _ hp with h | h
  ·exact (hI.aT n o h2).lt.2.2 p h
  ·exact h h3
 ·exact hI.apart n m o o' (CR n o hn).2 (CR m o' hm).2 he
 ·rcases jR b p h with h | h
  ·exact hI.new b p h
  ·refine .inr fun ho=>h ⟨Nat.lt_of_lt_of_le (w0.lt b ho) hI.below.size,fun e=>hs.1 (e ▸ ho)⟩
 ·exact ⟨Nat.lt_of_lt_of_le (w0.lt k hk) hI.below.size,fun e=>hs.1 (e ▸ hk)⟩
theorem q7: ∀(l:List AV),ba l=false→ ∀c∈l,c.eV=false
 | [],_,c,hc=>by cases hc
 | y::l,h,c,hc=>by
  simp only [ba,Bool.or_eq_false_iff] at h
  rcases List.mem_cons.1 hc with rfl | hc
  ·exact h.1
  ·exact q7 l h.2 c hc
theorem yY (hI:Inv w0 S0 N ρ S st a w) (aJ:dc P call) {f:FuncId} {o:Oper} {t:Nat} (cz:o.dst=some t) (ht:t < N) {s sz el:Nat} {es:aj} {vx:Value} {avs:List AV} {vs:List Value} {ds:aw} {r:DV}
  (hx:aE w S ρ (.ah s sz 0 es.length) vx) (aZ:st.aT s=some (.aC el sz es)) (hl:aS w S ρ avs vs) (mW:ba avs=false) (fi:bm (snap st) avs=some ds)
  (bU:(execOp a.eval o).run P w=(callFunc f (vx::vs).toArray).run P w)
  (hr:call f (.mv el sz es::ds)=some r) (gn:st'=place t r (st.gE s)) (hK: ∀a' w',cF w0 S0 N st' a' w'→K a' w') :o.wp P a w K Q:=by
 have qd:=aJ.aC f _ r hr
 have hsg:=hI.aT s _ aZ
 have dh:iX (fun _=>False) w S el sz es vx (ρ s).1:=by
  obtain ⟨bj,cR⟩:=hsg
  simp only [aE] at hx
  obtain ⟨ad,cap,rfl,hb,iz,_,_⟩:=hx
  have Jc:=hb (.inr trivial)
  have Nc:=iz trivial
  subst Jc
  exact ⟨(ρ s).2,by simp [Nc],bj,fun h=>h,cR.here,cR.fits,cR.len,cR.apart⟩
 have M4:cg w S ds vs:=iI fi hl fun v hv x u hx uz=>qa hI hx uz (q7 avs mW v hv)
 have hc:=qd w (vx::vs) S (dw.Lp w (ρ s).1) ⟨vx,vs,_,rfl,dh,M4,rfl⟩ hI.live
 have fin: ∀v w' S',iC (dw.Lp w (ρ s).1) S r v w' S'→cF w0 S0 N st' (a.put (some t) v) w':=by
  intro v w' S' hp
  subst gn
  have e7:=hI.lost aZ hp.below hp.up hp.new hp.live
  refine fc e7 (fun k hk=>⟨Nat.lt_of_lt_of_le (w0.lt k hk) hI.below.size,fun e=>hsg.lt.1 (e ▸ hk)⟩) ht hp.res fun n o' hn=> ?_
  simp only [St.gE] at hn
  split at hn
  ·cases hn
  ·rename_i cu
   simp only [Option.bind_eq_some_iff] at hn
   obtain ⟨o1,h1,_⟩:=hn
   exact ⟨(hI.aT n o1 h1).lt.2.1,fun e=>cu (hI.apart n s o1 _ h1 aZ e)⟩
 unfold Oper.wp
 rcases hc with ⟨⟨fn,hU,gC,jX⟩,hc⟩ | ⟨v,w',F6,S',hp⟩
 ·have jd:(callFunc f (vx::vs).toArray).run P w= .ok (.enter f (vx::vs).toArray) w:=by
   simp only [callFunc,Sem.run_bind,run_program,Result.andThen_ok,hU,gC,jX,Bool.false_eq_true,if_false,Sem.run_pure]
  rw [bU,jd]
  rw [Oper.upon_enter]
  refine hc.mono fun e w' he=> ?_
  obtain ⟨v,rfl,S',hp⟩:=he
  refine hK _ _ ?_
  rw [cz]
  exact fin v w' S' hp
 ·rw [bU,F6]
  refine hK _ _ ?_
  rw [cz]
  exact fin v w' S' hp
theorem l8 (hI:Inv w0 S0 N ρ S st a w) {dst:Option Tmp} {c:Call} {type:TypeId} {pos:String} {after:Array Edge} {guard:Option (Nat×Bool)} {op:bN}
  (hc:lA P c type=some op) :
  ∀av,bw st op=some av→ ∃u,(execOp a.eval ⟨dst,.call c,type,pos,after,guard⟩).run P w= .ok (.value u) w∧aE w S ρ av u:=by
 obtain ⟨callee,args,argTypes⟩:=c
 have jc: ∀l,args.toList=l→args.map a.eval=(l.map a.eval).toArray:=by
  intro l hl
  rw [← hl,← Array.toList_map,Array.toArray_toList]
 unfold lA at hc
 dsimp only at hc
 split at hc
 ·
  split at hc
  ·rename_i x T hx hT
   split at hc
   ·rename_i e ax he Fm
    cases hc
    exact fun av da=>by
     obtain ⟨u,h1,h2⟩:=Ed (P:=P) (ty:=type) (dt he) (bh hI Fm) (by simpa only [bw] using da)
     have RC:argTypes= #[T]:=by rw [← Array.toArray_toList (xs:=argTypes),hT]
     refine ⟨u,?_,h2⟩
     simp only [execOp,resolve,Sem.run_bind,Sem.run_pure,Result.andThen_ok,invoke,builtin,jc _ hx,List.map_cons,List.map_nil,RC,h1]
   ·cases hc
  ·cases hc
 ·
  simp only [Option.map_eq_some_iff] at hc
  obtain ⟨uy,hm,rfl⟩:=hc
  exact fun av da=>by
   have hl:=eU hI hm
   simp only [bw] at da
   cases Fm:uy.map (·.ev st) with
   | nil=>simp [Fm,intMax] at da
   | cons v l=>
    rw [Fm] at da hl
    simp only [intMax] at da
    simp only [aS] at hl
    obtain ⟨u,us,gP,hu,hl⟩:=hl
    obtain ⟨r,hr,I6⟩:=sM (P:=P) l us v u av hl hu da
    refine ⟨r,?_,I6⟩
    simp only [execOp,resolve,Sem.run_bind,Sem.run_pure,Result.andThen_ok,invoke,builtin,Builtin.max_,jc _ rfl,gP,hr]
 ·
  simp only [Option.map_eq_some_iff] at hc
  obtain ⟨uy,hm,rfl⟩:=hc
  exact fun av da=>by
   have hl:=eU hI hm
   simp only [bw] at da
   cases Fm:uy.map (·.ev st) with
   | nil=>simp [Fm,intMin] at da
   | cons v l=>
    rw [Fm] at da hl
    simp only [intMin] at da
    simp only [aS] at hl
    obtain ⟨u,us,gP,hu,hl⟩:=hl
    obtain ⟨r,hr,I6⟩:=sO (P:=P) l us v u av hl hu da
    refine ⟨r,?_,I6⟩
    simp only [execOp,resolve,Sem.run_bind,Sem.run_pure,Result.andThen_ok,invoke,builtin,Builtin.min_,jc _ rfl,gP,hr]
 ·
  split at hc
  ·split at hc
   ·split at hc
    ·cases hc
     intro av da
     simp [bw] at da
    ·cases hc
   ·cases hc
  ·cases hc
 ·
  split at hc
  ·split at hc
   ·split at hc
    ·split at hc
     ·split at hc
      ·cases hc
       intro av da
       simp [bw] at da
      ·cases hc
     ·cases hc
    ·cases hc
   ·cases hc
  ·cases hc
 ·split at hc
  ·split at hc
   ·cases hc
    intro av da
    simp [bw] at da
   split at hc
   ·cases hc
    intro av da
    simp [bw] at da
   ·cases hc
    intro av da
    simp [bw] at da
  ·cases hc
   intro av da
   simp [bw] at da
  ·cases hc
 ·cases hc
theorem td (hI:Inv w0 S0 N ρ S st a w) {o:Oper} {op:bN} (hc:ux P o.type o.op=some op) :
  ∀av,bw st op=some av→ ∃u,(execOp a.eval o).run P w= .ok (.value u) w∧aE w S ρ av u:=by
 obtain ⟨dst,Bi,type,pos,after,guard⟩:=o
 cases Bi<;>simp only [ux,reduceCtorEq] at hc
 case move x=>
  simp only [Option.map_eq_some_iff] at hc
  obtain ⟨ax,hx,rfl⟩:=hc
  exact fun av da=>by
   simp only [bw,Option.some.injEq] at da
   subst da
   exact ⟨_,rfl,bh hI hx⟩
 case assign x=>
  simp only [Option.map_eq_some_iff] at hc
  obtain ⟨ax,hx,rfl⟩:=hc
  exact fun av da=>by
   simp only [bw,Option.some.injEq] at da
   subst da
   exact ⟨_,rfl,bh hI hx⟩
 case pick c x y=>
  split at hc
  ·rename_i c' x' y' h1 h2 h3
   simp only [Option.some.injEq] at hc
   subst hc
   intro av da
   simp only [bw] at da
   split at da
   ·rename_i t
    split at da
    ·rename_i b hb
     have ht:=ga hI hb
     have hcv:=ky (bh hI h1) (b:=b) (by simp only [AX.ev,hb,AV.strip])
     have hx:b=true→aE w S ρ (x'.ev (st.under t true)) (a.eval x):=fun e=>bh (hI.under (by rw [ht,e])) h2
     have hy:b=false→aE w S ρ (y'.ev (st.under t false)) (a.eval y):=fun e=>bh (hI.under (by rw [ht,e])) h3
     refine ⟨if b then a.eval x else a.eval y,?_,?_⟩
     ·simp only [execOp,hcv,asBool,Sem.run_bind,Sem.run_pure,Result.andThen_ok]
     ·split at da
      ·rename_i p q hp hq
       cases da
       cases b
       ·simpa only [hq,Bool.false_eq_true,if_false,cond_false] using hy rfl
       ·simpa only [hp,if_true,cond_true] using hx rfl
      ·rename_i k p k' q hp hq
       split at da
       ·rename_i hk
        subst hk
        cases da
        cases b
        ·simpa only [hq,Bool.false_eq_true,if_false,cond_false] using hy rfl
        ·simpa only [hp,if_true,cond_true] using hx rfl
       ·cases da
      ·cases da
       cases b
       ·simpa only [Bool.false_eq_true,if_false] using hy rfl
       ·simpa only [if_true] using hx rfl
    ·cases da
   ·cases da
  ·cases hc
 case alloc el=>
  split at hc
  ·split at hc
   ·cases hc
    intro av da
    simp [bw] at da
   ·cases hc
  ·cases hc
 case box el x=>
  split at hc
  ·cases hc
   intro av da
   simp [bw] at da
  ·cases hc
 case build T parts=>
  split at hc
  ·rename_i fs z hu hz
   split at hc
   ·rename_i iU
    simp only [Option.map_eq_some_iff] at hc
    obtain ⟨pL,hm,rfl⟩:=hc
    exact fun av da=>by
     simp only [bw,Option.map_eq_some_iff] at da
     obtain ⟨r,hr,rfl⟩:=da
     obtain ⟨u,h1,h2⟩:=yI hI hu hz iU hm hr
     exact ⟨u,by simp only [execOp,Sem.run_bind,h1,Result.andThen_ok,Sem.run_pure],h2⟩
   ·cases hc
  ·cases hc
 case buildSlice T len parts=>
  split at hc
  ·split at hc
   ·split at hc
    ·cases hc
     intro av da
     simp [bw] at da
    ·cases hc
   ·cases hc
  ·cases hc
 case load T x=>
  split at hc
  ·rename_i g sz ax hg hs hx
   simp only [Option.some.injEq] at hc
   subst hc
   exact fun av da=>by
    simp only [bw,Option.bind_eq_some_iff] at da
    obtain ⟨av0,da,hck⟩:=da
    cases Au hck
    obtain ⟨u,h1,h2⟩:=sJ hI hg hs (bh hI hx) da
    exact ⟨u,by simp only [execOp,Sem.run_bind,h1,Result.andThen_ok,Sem.run_pure],h2⟩
  ·cases hc
 case store T x y=>
  split at hc
  ·cases hc
   intro av da
   simp [bw] at da
  ·cases hc
 case binOp Bj T x y U=>
  split at hc
  ·rename_i ax ay hx hy
   have As:=bh hI hx
   have Ly:=bh hI hy
   have vr: ∀u w1,(do eqGuard Bj T x y (a.eval x) (a.eval y); binOp Bj T (a.eval x) (a.eval y) :Sem Value).run P w= .ok u w1→
     (execOp a.eval ⟨dst,.binOp Bj T x y U,type,pos,after,guard⟩).run P w= .ok (.value u) w1:=by
    intro u w1 hr
    simp only [execOp]
    rw [Sem.run_bind,hr]
    rfl
   let VS:=fun op=> ∀av,bw st op=some av→ ∃u,(execOp a.eval ⟨dst,.binOp Bj T x y U,type,pos,after,guard⟩).run P w= .ok (.value u) w∧aE w S ρ av u
   have Nd:VS (.bin Bj ax ay):=fun av da=>by
     obtain ⟨u,h1,h2⟩:=D9 (P:=P) (t:=T) (ox:=x) (oy:=y) As Ly (by simpa only [bw] using da)
     exact ⟨u,vr u w h1,h2⟩
   have RD: ∀neg n,Bj=(if neg then .neq else .eql)→yg P T=some n→VS (.eqs neg n ax ay):=fun neg n cU hf av da=>by
     simp only [bw] at da
     obtain ⟨u,h1,h2⟩:=Eb (P:=P) (t:=T) (ox:=x) (oy:=y) cU hf As Ly da
     exact ⟨u,vr u w h1,h2⟩
   have RE: ∀neg,Bj=(if neg then .neq else .eql)→P.underlying T=some .bool→VS (.IJ neg ax ay):=fun neg cU hf av da=>by
     simp only [bw] at da
     obtain ⟨u,h1,h2⟩:=D' (P:=P) (t:=T) (ox:=x) (oy:=y) cU hf As Ly da
     exact ⟨u,vr u w h1,h2⟩
   have p': ∀neg e,Bj=(if neg then .neq else .eql)→P.underlying T=some (.slice e)→ay= .k .af→VS (.jq neg ax):=fun neg e cU hu hay av da=>by
     simp only [bw] at da
     subst hay
     have hyv:a.eval y= .slice none 0 0:=by simpa only [AX.ev,aE,aW] using Ly
     obtain ⟨u,h1,h2⟩:=Ea (P:=P) (t:=T) (ox:=x) (oy:=y) cU hu As da
     rw [← hyv] at h1
     exact ⟨u,vr u w h1,h2⟩
   have LA: ∀neg e,Bj=(if neg then .neq else .eql)→P.underlying T=some (.pointer e)→ay= .k .bn→VS (.eH neg ax):=fun neg e cU hu hay av da=>by
     simp only [bw] at da
     subst hay
     have hyv:a.eval y= .pointer none:=by simpa only [AX.ev,aE,aW] using Ly
     obtain ⟨u,h1,h2⟩:=AQ (P:=P) (t:=T) (ox:=x) (oy:=y) cU hu As da
     rw [← hyv] at h1
     exact ⟨u,vr u w h1,h2⟩
   have RF:(Bj= .shl∨Bj= .shr)→VS (.lh Bj ax ay):=fun cU av da=>by
     simp only [bw] at da
     obtain ⟨u,h1,h2⟩:=Ec (P:=P) (t:=T) (ox:=x) (oy:=y) cU As Ly da
     exact ⟨u,vr u w h1,h2⟩
   cases Bj<;>simp only at hc
   case shl=>cases hc; exact RF (.inl rfl)
   case shr=>cases hc; exact RF (.inr rfl)
   case eql=>
    split at hc
    ·rename_i n hf
     cases hc
     exact RD false n rfl hf
    ·split at hc
     ·rename_i hu
      cases hc
      exact RE false rfl hu
     ·cases hc
      exact Nd
     ·rename_i e hu
      split at hc
      ·cases hc
       exact p' false e rfl hu rfl
      ·cases hc
     ·rename_i e hu
      split at hc
      ·cases hc
       exact LA false e rfl hu rfl
      ·cases hc
     ·cases hc
   case neq=>
    split at hc
    ·rename_i n hf
     cases hc
     exact RD true n rfl hf
    ·split at hc
     ·rename_i hu
      cases hc
      exact RE true rfl hu
     ·cases hc
      exact Nd
     ·rename_i e hu
      split at hc
      ·cases hc
       exact p' true e rfl hu rfl
      ·cases hc
     ·rename_i e hu
      split at hc
      ·cases hc
       exact LA true e rfl hu rfl
      ·cases hc
     ·cases hc
   all_goals (cases hc; exact Nd)
  ·cases hc
 case nilCheck x=>
  simp only [Option.map_eq_some_iff] at hc
  obtain ⟨ax,hx,rfl⟩:=hc
  exact fun av da=>by
   have h0:nu 0 (ax.ev st)=some av:=by simpa only [bw] using da
   have hv:=bh hI hx
   unfold nu at h0
   split at h0
   ·rename_i e k he
    cases h0
    rw [he] at hv
    have CS:=hv
    simp only [aE,aW] at CS
    obtain ⟨b,k',hp,_⟩:=CS
    exact ⟨_,by simp only [execOp,hp]; rfl,by rw [← hp]; exact hv⟩
   ·rename_i s sz i k he
    cases h0
    rw [he] at hv
    have hp:=hv
    simp only [aE] at hp
    exact ⟨_,by simp only [execOp,hp]; rfl,by rw [← hp]; exact hv⟩
   ·cases h0
 case unOp uop T x=>
  simp only [Option.map_eq_some_iff] at hc
  obtain ⟨ax,hx,rfl⟩:=hc
  exact fun av da=>by
   obtain ⟨u,h1,h2⟩:=F8 (P:=P) (bh hI hx) (by simpa only [bw] using da)
   exact ⟨u,by simp only [execOp,Sem.run_bind,h1,Result.andThen_ok,Sem.run_pure],h2⟩
 case convert src ab0 x=>
  split at hc
  ·rename_i d k ax h1 h2 hx
   cases hc
   exact fun av da=>by
    obtain ⟨u,g1,g2⟩:=AP (P:=P) h1 h2 (bh hI hx) (by simpa only [bw] using da)
    exact ⟨u,by simp only [execOp,Sem.run_bind,g1,Result.andThen_ok,Sem.run_pure],g2⟩
  ·cases hc
 case fieldAddr s x f=>
  split at hc
  ·rename_i fs ax hu hx
   split at hc
   ·rename_i fd hf
    split at hc
    ·rename_i n hn
     split at hc
     ·cases hc
     ·rename_i h0
      cases hc
      exact fun av da=>by
       obtain ⟨u,g1,g2⟩:=yE (P:=P) hu hf hn h0 (bh hI hx) (by simpa only [bw] using da)
       exact ⟨u,by simp only [execOp,Sem.run_bind,g1,Result.andThen_ok,Sem.run_pure],g2⟩
    ·cases hc
   ·cases hc
  ·cases hc
 case indexAddr T x i=>
  split at hc
  ·rename_i n e ax ai ha hx hi
   split at hc
   ·rename_i sz hs
    split at hc
    ·cases hc
     exact fun av da=>by
      obtain ⟨u,g1,g2⟩:=AR (P:=P) (sL ha) hs (bh hI hx) (bh hI hi) (by simpa only [bw] using da)
      exact ⟨u,by simp only [execOp,Sem.run_bind,g1,Result.andThen_ok,Sem.run_pure],g2⟩
    ·cases hc
   ·cases hc
  split at hc
  ·rename_i e ax ai he hx hi
   split at hc
   ·rename_i sz hs
    split at hc
    ·cases hc
     exact fun av da=>by
      simp only [bw,Option.bind_eq_some_iff] at da
      obtain ⟨av0,da,hck⟩:=da
      cases wA hck
      obtain ⟨u,g1,g2⟩:=yF (P:=P) (dt he) hs (bh hI hx) (bh hI hi) da
      exact ⟨u,by simp only [execOp,Sem.run_bind,g1,Result.andThen_ok,Sem.run_pure],g2⟩
    ·cases hc
   ·cases hc
  ·cases hc
 case slice T x lo hi mx=>
  split at hc
  ·rename_i n e ax Ls Lt ha hx h1 h2
   split at hc
   ·rename_i hs
    cases hc
    exact fun av da=>by
     obtain ⟨u,g1,g2⟩:=AS (P:=P) hI (sL ha) hs (bh hI hx) h1 h2 (by simpa only [bw] using da)
     exact ⟨u,by simp only [execOp,Option.map_none,Sem.run_bind,g1,Result.andThen_ok,Sem.run_pure],g2⟩
   ·cases hc
  split at hc
  ·rename_i e ax Ls Lt amx he hx h1 h2 h3
   split at hc
   ·rename_i sz hs
    split at hc
    ·cases hc
     exact fun av da=>by
      obtain ⟨u,g1,g2⟩:=yG (P:=P) (ox:=x) hI (dt he) hs (bh hI hx) h1 h2 h3 (by simpa only [bw] using da)
      exact ⟨u,by simp only [execOp,Sem.run_bind,g1,Result.andThen_ok,Sem.run_pure],g2⟩
    ·cases hc
   ·cases hc
  ·cases hc
 case extract x i=>
  simp only [Option.map_eq_some_iff] at hc
  obtain ⟨ax,hx,rfl⟩:=hc
  exact fun av da=>by
   obtain ⟨u,h1,h2⟩:=Ee (P:=P) (bh hI hx) (by simpa only [bw] using da)
   exact ⟨u,by simp only [execOp,Sem.run_bind,h1,Result.andThen_ok,Sem.run_pure],h2⟩
 case makeFunc fn first caps=>
  cases fn<;>simp only [reduceCtorEq] at hc
  rename_i f
  split at hc
  ·rename_i Gu
   simp only [Option.map_eq_some_iff] at hc
   obtain ⟨Rs,hm,rfl⟩:=hc
   exact fun av da=>by
    simp only [bw,Option.some.injEq] at da
    subst da
    obtain ⟨u,h1,h2⟩:=AZ (P:=P) hI (f:=f) hm
    have hf0:first= #[]:=by simpa using Gu
    subst hf0
    exact ⟨u,by simp only [execOp,List.map_toArray,List.map_nil,Sem.run_bind,h1,Result.andThen_ok,Sem.run_pure],h2⟩
  ·cases hc
 case makeSlice T l c=>
  split at hc
  ·split at hc
   ·split at hc
    ·cases hc
     intro av da
     simp [bw] at da
    ·cases hc
   ·cases hc
  ·cases hc
 case call c=>exact l8 hI hc
theorem xb (hI:Inv w0 S0 N ρ S st a w) (aJ:dc P call) {dst:Option Tmp} {c:Call} {type:TypeId} {pos:String} {after:Array Edge} {guard:Option (Nat×Bool)} {op:bN}
  (hc:lA P c type=some op) (hd: ∀d,dst=some d→d < N) (h:aK call dst op st=some st') (hK: ∀a' w',cF w0 S0 N st' a' w'→K a' w') :
  Oper.wp P ⟨dst,.call c,type,pos,after,guard⟩ a w K Q:=by
 obtain ⟨callee,args,argTypes⟩:=c
 have jc: ∀l,args.toList=l→args.map a.eval=(l.map a.eval).toArray:=by
  intro l hl
  rw [← hl,← Array.toList_map,Array.toArray_toList]
 have qU:=hc
 unfold lA at hc
 dsimp only at hc
 split at hc
 ·
  split at hc
  ·rename_i x T hx hT
   split at hc
   ·rename_i e ax he Fm
    cases hc
    exact xa hI hd h hK (fun _=>rfl) rfl (l8 hI qU)
   ·cases hc
  ·cases hc
 ·
  simp only [Option.map_eq_some_iff] at hc
  obtain ⟨uy,hm,rfl⟩:=hc
  exact xa hI hd h hK (fun _=>rfl) rfl (l8 hI qU)
 ·
  simp only [Option.map_eq_some_iff] at hc
  obtain ⟨uy,hm,rfl⟩:=hc
  exact xa hI hd h hK (fun _=>rfl) rfl (l8 hI qU)
 ·
  split at hc
  ·rename_i x y T U Qx hTU
   split at hc
   ·rename_i e ax ay he hx hy
    split at hc
    ·rename_i hs
     cases hc
     simp only [aK,Option.map_eq_some_iff] at h
     obtain ⟨⟨m,dD⟩,Nc,rfl⟩:=h
     obtain ⟨w1,hr,hi⟩:=Bd (P:=P) (U:=U) (ty:=type) hI (dt he) hs (bh hI hx) (bh hI hy) Nc
     have RC:argTypes= #[T,U]:=by rw [← Array.toArray_toList (xs:=argTypes),hTU]
     refine ep (by simp only [execOp,resolve,Sem.run_bind,Sem.run_pure,Result.andThen_ok,invoke,builtin,jc _ Qx,List.map_cons,List.map_nil,RC,hr]; rfl) (hK _ _ ?_)
     cases dst with
     | none=>exact ⟨_,_,hi⟩
     | some d=>exact ⟨_,_,hi.put (hd d rfl) (by simp only [aE,aW]; rfl)⟩
    ·cases hc
   ·cases hc
  ·cases hc
 ·
  split at hc
  ·rename_i x y T U Qx hTU
   split at hc
   ·rename_i heq
    subst heq
    split at hc
    ·rename_i e ax ay he hx hy
     split at hc
     ·rename_i sz bytes z hs hb hz
      split at hc
      ·rename_i c8
       cases hc
       cases dst with
       | none=>simp [aK,bw] at h
       | some t=>
        simp only [aK] at h
        obtain ⟨u,w1,hr,hi⟩:=w7 (ty:=type) hI (hd t rfl) (dt he) hs hb c8.1 hz c8.2 (bh hI hx) (bh hI hy) h
        have RC:argTypes= #[T,T]:=by rw [← Array.toArray_toList (xs:=argTypes),hTU]
        exact tc rfl hK ⟨u,w1,by simp only [execOp,resolve,Sem.run_bind,Sem.run_pure,Result.andThen_ok,invoke,builtin,jc _ Qx,List.map_cons,List.map_nil,RC,hr],hi⟩
      ·cases hc
     ·cases hc
    ·cases hc
   ·cases hc
  ·cases hc
 ·
  rename_i f
  split at hc
  ·rename_i g fx uy Nf hm
   split at hc
   ·rename_i hh
    cases hc
    simp only [aK] at h
    split at h
    ·rename_i R d hha
     simp only [Option.bind_eq_some_iff] at h
     obtain ⟨r,hr,gn⟩:=h
     have hl:=eU hI hm
     refine yW hI aJ hd hl hha ?_ hr gn hK
     simp only [execOp,resolve,Act.eval,Deferred.ofValue,Sem.run_bind,Sem.run_pure,Result.andThen_ok,invoke,Array.empty_append,Array.append_empty]
     rw [← Array.toList_map,Array.toArray_toList]
    ·cases h
   split at hc
   ·rename_i ax uy hmv
    cases hc
    cases dst with
    | none=>simp [aK,bw] at h
    | some t=>
     simp only [aK] at h
     split at h
     ·rename_i s sz off len Fu
      split at h
      ·rename_i el bd es aZ
       split at h
       ·rename_i pV
        obtain ⟨rfl,rfl,rfl,mW⟩:=pV
        split at h
        ·rename_i ds fi
         simp only [Option.map_eq_some_iff] at h
         obtain ⟨r,hr,gn⟩:=h
         have hl:=eU hI hm
         simp only [List.map_cons,aS] at hl
         obtain ⟨u,us,gP,hu,nJ⟩:=hl
         rw [Fu] at hu
         refine yY hI aJ rfl (hd t rfl) hu aZ nJ mW fi ?_ hr gn.symm hK
         simp only [execOp,resolve,Act.eval,Deferred.ofValue,Sem.run_bind,Sem.run_pure,Result.andThen_ok,invoke,Array.empty_append,Array.append_empty]
         rw [← gP,← Array.toList_map,Array.toArray_toList]
        ·cases h
       ·cases h
      ·cases h
     ·rename_i y Fu
      split at h
      ·rename_i ds fi
       simp only [Option.bind_eq_some_iff] at h
       obtain ⟨r,hr,h⟩:=h
       split at h
       ·cases h
       rename_i c8
       have Ek:List.map (fun x=>x.ev st) (ax::uy)= .d y::uy.map (·.ev st):=by rw [List.map_cons,Fu]
       rw [← Ek] at fi
       have gn:FH t (List.map (fun x=>x.ev st) (ax::uy)) r st=st':=by
        have gF:(ba (List.map (fun x=>x.ev st) (ax::uy))&& !r.dz)=false:=by
         rw [Ek]
         have Bk:(ba (AV.d y::uy.map (·.ev st))&& !r.plain)=false:=by simpa [ba,AV.eV] using c8
         cases hpp:r.plain with
         | true=>rw [Jg hpp]; simp
         | false=>
          rw [hpp] at Bk
          simp only [Bool.not_false,Bool.and_true] at Bk
          rw [Bk]
          rfl
        simp only [FH,gF,Bool.false_eq_true,if_false]
        exact Option.some.inj h
       have hl:=eU hI hm
       refine nO hI aJ rfl (hd t rfl) hl (fun S' hs=> ?_) hr gn.symm hK
       refine ⟨args.toList.map a.eval,iI fi hl hs,?_⟩
       simp only [execOp,resolve,Act.eval,Deferred.ofValue,Sem.run_bind,Sem.run_pure,Result.andThen_ok,invoke,Array.empty_append,Array.append_empty]
       rw [← Array.toList_map,Array.toArray_toList]
      ·cases h
     ·cases h
   cases hc
   cases dst with
   | none=>simp [aK,bw] at h
   | some t=>
    simp only [aK] at h
    split at h
    ·rename_i ds fi
     simp only [Option.bind_eq_some_iff,rD] at h
     obtain ⟨r,hr,h⟩:=h
     split at h
     ·cases h
     have gn:=Option.some.inj h
     have hl:=eU hI hm
     refine nO hI aJ rfl (hd t rfl) hl (fun S' hs=> ?_) hr gn.symm hK
     refine ⟨args.toList.map a.eval,iI fi hl hs,?_⟩
     simp only [execOp,resolve,Act.eval,Deferred.ofValue,Sem.run_bind,Sem.run_pure,Result.andThen_ok,invoke,Array.empty_append,Array.append_empty]
     rw [← Array.toList_map,Array.toArray_toList]
    ·cases h
  ·rename_i fo fA _ _ fx uy RG hm Nf
   cases hc
   cases dst with
   | none=>simp [aK,bw] at h
   | some t=>
    simp only [aK] at h
    split at h
    ·rename_i g caps ds hg fi
     simp only [Option.bind_eq_some_iff,rD] at h
     obtain ⟨r,hr,h⟩:=h
     split at h
     ·cases h
     have gn:=Option.some.inj h
     have hl:=eU hI hm
     have RH:=bh hI Nf
     refine nO hI aJ rfl (hd t rfl) (vs:=a.eval fo::args.toList.map a.eval) (avs:=fx.ev st::uy.map (·.ev st)) (by simp only [aS]; exact ⟨_,_,rfl,RH,hl⟩) (fun S' hs=> ?_) hr gn.symm hK
     have RI:=hs (fx.ev st) (by simp) _ _ hg RH
     simp only [aW] at RI
     obtain ⟨us,w8,nJ⟩:=RI
     refine ⟨args.toList.map a.eval++us,?_,?_⟩
     ·have h1:=iI fi hl (S':=S') fun v hv=>hs v (by simp [hv])
      exact kM _ _ _ _ h1 nJ
     ·simp only [execOp,resolve,w8,Deferred.ofValue,Sem.run_bind,Sem.run_pure,Result.andThen_ok,invoke,Array.empty_append]
      rw [← Array.toList_map,← List.append_toArray,Array.toArray_toList]
    ·cases h
  ·cases hc
 ·cases hc
where
 kM {w:World} {S:Nat→Nat→Prop} : ∀(l m:aw) (us vs:List Value),cg w S l us→cg w S m vs→cg w S (l++m) (us++vs)
  | [],m,us,vs,h1,h2=>by simp only [cg] at h1; subst h1; simpa using h2
  | x::l,m,us,vs,h1,h2=>by
   simp only [cg] at h1
   obtain ⟨u,oj,rfl,h3,h4⟩:=h1
   simp only [List.cons_append,cg]
   exact ⟨u,oj++vs,rfl,h3,kM l m oj vs h4 h2⟩
theorem o7 (hI:Inv w0 S0 N ρ S st a w) (aJ:dc P call) {o:Oper} {op:bN} (hc:ux P o.type o.op=some op) (hd: ∀d,o.dst=some d→d < N) (h:aK call o.dst op st=some st')
  (hK: ∀a' w',cF w0 S0 N st' a' w'→K a' w') :o.wp P a w K Q:=by
 have dI:=fun h1 h2=>xa (K:=K) (Q:=Q) hI hd h hK h1 h2 (td (P:=P) hI hc)
 obtain ⟨dst,Bi,type,pos,after,guard⟩:=o
 cases Bi<;>simp only [ux,reduceCtorEq] at hc
 case move x=>
  simp only [Option.map_eq_some_iff] at hc
  obtain ⟨ax,hx,rfl⟩:=hc
  exact dI (fun _=>rfl) rfl
 case assign x=>
  simp only [Option.map_eq_some_iff] at hc
  obtain ⟨ax,hx,rfl⟩:=hc
  exact dI (fun _=>rfl) rfl
 case pick c x y=>
  split at hc
  ·cases hc
   exact dI (fun _=>rfl) rfl
  ·cases hc
 case alloc el=>
  split at hc
  ·rename_i z sz hz hs
   split at hc
   ·rename_i wW
    simp only [Option.some.injEq] at hc
    subst hc
    cases dst with
    | none=>simp [aK] at h
    | some t=>
     simp only [aK] at h
     split at h
     ·rename_i c8
      simp only [Option.some.injEq] at h
      subst h
      obtain ⟨u,w1,hr,hi⟩:=yL hI (hd t rfl) hz c8.1 c8.2
      exact tc rfl hK ⟨u,w1,by simp only [execOp,Sem.run_bind,hr,Result.andThen_ok,Sem.run_pure],hi⟩
     ·cases h
   ·cases hc
  ·cases hc
 case box el x=>
  split at hc
  ·rename_i ax sz hx hs
   simp only [Option.some.injEq] at hc
   subst hc
   cases dst with
   | none=>simp [aK] at h
   | some t=>
    simp only [aK] at h
    split at h
    ·rename_i c8
     simp only [Option.some.injEq] at h
     subst h
     obtain ⟨u,w1,hr,hi⟩:=Ej (P:=P) hI (el:=el) (hd t rfl) (bh hI hx) c8.1 c8.2.1 c8.2.2
     exact tc rfl hK ⟨.pointer (some u),w1,by simp only [execOp,Instr.box,Sem.run_bind,hr,Result.andThen_ok,Sem.run_pure],hi⟩
    ·cases h
  ·cases hc
 case build T parts=>
  split at hc
  ·rename_i fs z hu hz
   split at hc
   ·rename_i iU
    simp only [Option.map_eq_some_iff] at hc
    obtain ⟨pL,hm,rfl⟩:=hc
    exact dI (fun _=>rfl) rfl
   ·cases hc
  ·cases hc
 case buildSlice T len parts=>
  split at hc
  ·rename_i e he
   split at hc
   ·rename_i sz z ps hs hz hm
    split at hc
    ·rename_i c8
     simp only [Option.some.injEq] at hc
     subst hc
     cases dst with
     | none=>simp [aK] at h
     | some t=>
      simp only [aK] at h
      split at h
      ·rename_i LC
       split at h
       ·rename_i rows bj
        split at h
        ·cases h
        ·rename_i gQ
         simp only [Option.some.injEq] at h
         subst h
         obtain ⟨u,w1,hr,hi⟩:=wX hI (hd t rfl) (dt he) hs c8.1 hz LC.1 LC.2 c8.2.2 hm bj (by simpa using gQ)
         exact tc rfl hK ⟨u,w1,by simp only [execOp,Sem.run_bind,hr,Result.andThen_ok,Sem.run_pure],hi⟩
       ·cases h
      ·cases h
    ·cases hc
   ·cases hc
  ·cases hc
 case load T x=>
  split at hc
  ·rename_i g sz ax hg hs hx
   simp only [Option.some.injEq] at hc
   subst hc
   exact dI (fun _=>rfl) rfl
  ·cases hc
 case store T x y=>
  split at hc
  ·rename_i sz ax ay hs hx hy
   simp only [Option.some.injEq] at hc
   subst hc
   cases dst with
   | some t=>simp [aK,bw] at h
   | none=>
    simp only [aK] at h
    obtain ⟨w1,hr,hi⟩:=yP hI hs (bh hI hx) (bh hI hy) h
    exact ta (by simp only [execOp,Sem.run_bind,hr,Result.andThen_ok,Sem.run_pure]) (hK _ _ hi)
  ·cases hc
 case binOp Bj T x y U=>
  split at hc
  ·cases Bj<;>simp only at hc
   case eql=>
    split at hc
    ·cases hc
     exact dI (fun _=>rfl) rfl
    ·split at hc
     ·cases hc
      exact dI (fun _=>rfl) rfl
     ·cases hc
      exact dI (fun _=>rfl) rfl
     ·split at hc
      ·cases hc
       exact dI (fun _=>rfl) rfl
      ·cases hc
     ·split at hc
      ·cases hc
       exact dI (fun _=>rfl) rfl
      ·cases hc
     ·cases hc
   case neq=>
    split at hc
    ·cases hc
     exact dI (fun _=>rfl) rfl
    ·split at hc
     ·cases hc
      exact dI (fun _=>rfl) rfl
     ·cases hc
      exact dI (fun _=>rfl) rfl
     ·split at hc
      ·cases hc
       exact dI (fun _=>rfl) rfl
      ·cases hc
     ·split at hc
      ·cases hc
       exact dI (fun _=>rfl) rfl
      ·cases hc
     ·cases hc
   all_goals (cases hc; exact dI (fun _=>rfl) rfl)
  ·cases hc
 case unOp uop T x=>
  simp only [Option.map_eq_some_iff] at hc
  obtain ⟨ax,hx,rfl⟩:=hc
  exact dI (fun _=>rfl) rfl
 case nilCheck x=>
  simp only [Option.map_eq_some_iff] at hc
  obtain ⟨ax,hx,rfl⟩:=hc
  exact dI (fun _=>rfl) rfl
 case convert src ab0 x=>
  split at hc
  ·rename_i d k ax h1 h2 hx
   cases hc
   exact dI (fun _=>rfl) rfl
  ·cases hc
 case fieldAddr s x f=>
  split at hc
  ·rename_i fs ax hu hx
   split at hc
   ·rename_i fd hf
    split at hc
    ·rename_i n hn
     split at hc
     ·cases hc
     ·rename_i h0
      cases hc
      exact dI (fun _=>rfl) rfl
    ·cases hc
   ·cases hc
  ·cases hc
 case indexAddr T x i=>
  split at hc
  ·split at hc
   ·split at hc
    ·cases hc
     exact dI (fun _=>rfl) rfl
    ·cases hc
   ·cases hc
  split at hc
  ·rename_i e ax ai he hx hi
   split at hc
   ·rename_i sz hs
    split at hc
    ·cases hc
     exact dI (fun _=>rfl) rfl
    ·cases hc
   ·cases hc
  ·cases hc
 case slice T x lo hi mx=>
  split at hc
  ·split at hc
   ·cases hc
    exact dI (fun _=>rfl) rfl
   ·cases hc
  split at hc
  ·rename_i e ax Ls Lt amx he hx h1 h2 h3
   split at hc
   ·rename_i sz hs
    split at hc
    ·cases hc
     exact dI (fun _=>rfl) rfl
    ·cases hc
   ·cases hc
  ·cases hc
 case extract x i=>
  simp only [Option.map_eq_some_iff] at hc
  obtain ⟨ax,hx,rfl⟩:=hc
  exact dI (fun _=>rfl) rfl
 case makeFunc fn first caps=>
  cases fn<;>simp only [reduceCtorEq] at hc
  rename_i f
  split at hc
  ·rename_i Gu
   simp only [Option.map_eq_some_iff] at hc
   obtain ⟨Rs,hm,rfl⟩:=hc
   exact dI (fun _=>rfl) rfl
  ·cases hc
 case makeSlice T l c=>
  split at hc
  ·rename_i e al ac he hl iz
   split at hc
   ·rename_i sz bytes z hs hb hz
    split at hc
    ·rename_i c8
     cases hc
     cases dst with
     | none=>simp [aK] at h
     | some t=>
      simp only [aK] at h
      split at h
      ·rename_i kl m kc n hm hn
       split at h
       ·rename_i pV
        obtain ⟨c0,c00,c1,c2,c3,c4⟩:=pV
        cases h
        have e1:=dB (bh hI hl) hm
        have e2:=dB (bh hI iz) hn
        obtain ⟨u,w1,hr,hi⟩:=uJ hI (hd t rfl) (dt he) hs hb c8.1 hz c3 c4 (kl:=kl) (kc:=kc) c0 c00 c1 c2
        exact tc rfl hK ⟨u,w1,by simp only [execOp,e1,e2,Sem.run_bind,hr,Result.andThen_ok,Sem.run_pure],hi⟩
       ·cases h
      ·cases h
    ·cases hc
   ·cases hc
  ·cases hc
 case call c=>exact xb hI aJ hc hd h hK
end
section
variable {P:Program} {w0:dw} {S0:Nat→Nat→Prop} {N:Nat} {ρ:Nat→Nat×Nat} {S:Nat→Nat→Prop} {st st':St} {a:Act} {w:World} {call:FuncId→aw→aH}
 {K:Act→World→Prop} {Q:Exit→Act→World→Prop}
theorem jY {x:DV} {v:Value} (h:aW w S x v) :aW w S (Aw x) v:=by
 cases x with
 | sl k sz es=>
  cases k with
  | own el=>
   simp only [Aw,aW] at h ⊢
   obtain ⟨a,b,o,cap,h1,h0,h2,_,h4⟩:=h
   exact ⟨a,b,o,cap,h1,h0,h2,(fun h=>by cases h),h4⟩
  | cT el=>
   simp only [Aw,aW,List.length_map] at h ⊢
   obtain ⟨a,b,o,cap,h1,h0,h2,_,h4⟩:=h
   refine ⟨a,b,o,cap,h1,h0,h2,(fun h=>by cases h),gO.mk _ _ _ _ fun i e he=> ?_⟩
   obtain ⟨e0,uB,rfl⟩:=Option.map_eq_some_iff.1 (by rw [List.getElem?_map] at he; exact he)
   obtain ⟨g1,g2⟩:=gO.at _ _ _ _ h4 i e0 uB
   refine ⟨by rw [List.length_map]; exact g1,iS.mk _ _ _ fun j c hc=> ?_⟩
   obtain ⟨c0,qU,rfl⟩:=Option.map_eq_some_iff.1 (by rw [List.getElem?_map] at hc; exact hc)
   obtain ⟨k1,u,k2,k3⟩:=iS.at _ _ _ g2 j c0 qU
   exact ⟨k1,u,k2,fX k3⟩
  | _=>exact h
 | _=>exact h
theorem nP: ∀(l:aw) (us:List Value),cg w S l us→cg w S (l.map Aw) us
 | [],us,h=>by simpa only [cg,List.map_nil] using h
 | x::l,us,h=>by
  simp only [cg] at h
  obtain ⟨u,oj,rfl,h1,h2⟩:=h
  simp only [List.map_cons,cg]
  exact ⟨u,oj,rfl,jY h1,nP l oj h2⟩
theorem l9 {x:DV} {v:Value} (h:aW w S x v) :aW w S (ct x) v:=by
 cases x with
 | tuple vs=>
  simp only [ct,aW] at h ⊢
  obtain ⟨us,rfl,hl⟩:=h
  exact ⟨us,rfl,nP vs us hl⟩
 | agg vs=>
  simp only [ct,aW] at h ⊢
  obtain ⟨us,rfl,hl⟩:=h
  exact ⟨us,rfl,nP vs us hl⟩
 | _=>exact jY h
theorem iX.read {B:Nat→Prop} {S':Nat→Nat→Prop} {el sz g:Nat} {es:aj} {v:Value} (h:iX B w S el sz es v g) (hS: ∀b o,S b o→S' b o) (hg: ∀o,S' g o) :aW w S' (.sl .ro sz es) v:=by
 obtain ⟨cap,rfl,bj,cR⟩:=h
 obtain ⟨cur,cS,_,cD⟩:=cR.here
 simp only [aW]
 refine ⟨_,g,0,cap,rfl,fun _=>rfl,cR.fits,(fun h=>by cases h),gO.mk _ _ _ _ fun i e he=> ?_⟩
 have jn:=(bj e (List.mem_of_getElem? he)).1
 refine ⟨jn,iS.mk _ _ _ fun j c hc=>⟨hg _,?_⟩⟩
 obtain ⟨u,hu,hr⟩:=cD i j (List.getElem?_eq_some_iff.1 he).1 (by rw [← jn]; exact (List.getElem?_eq_some_iff.1 hc).1)
 exact ⟨u,by rw [Nat.zero_add,cell_of_row w _ _ cur el (0,0) cS]; exact hu,aW.kept ⟨hS,fun _ _ _ _ h=>h⟩ c u (hr e c he hc)⟩
theorem aW.own {S':Nat→Nat→Prop} {k:SK} {sz el:Nat} {es:aj} {v:Value} (h:aW w S' (.sl .ro sz es) v) :aW w S' (.sl (.own el) sz es) v:=by
 simp only [aW] at h ⊢
 obtain ⟨a,b,o,cap,h1,h0,h2,_,h4⟩:=h
 exact ⟨a,b,o,cap,h1,h0,h2,(fun h=>by cases h),h4⟩
theorem iY.read {B:Nat→Prop} {S':Nat→Nat→Prop} (hS: ∀b o,S b o→S' b o) (hB: ∀b o,¬ B b→b < w.heap.size→S' b o) : ∀(rs:aw) (vs:List Value) (gs:List Nat),iY B w S rs vs gs→cg w S' rs vs
 | [],vs,gs,h=>by simp only [iY] at h; simpa only [cg] using h.1
 | r::rs,vs,gs,h=>by
  by_cases dh: ∃el sz es,r= .sl (.own el) sz es
  ·obtain ⟨el,sz,es,rfl⟩:=dh
   simp only [iY] at h
   obtain ⟨v,eo,g,oW,rfl,rfl,ho,_,iT⟩:=h
   simp only [cg]
   exact ⟨v,eo,rfl,aW.own (k:= .ro) (ho.read hS fun o=>hB _ _ ho.choose_spec.2.2.base ho.choose_spec.2.2.lt),iY.read hS hB rs eo oW iT⟩
  ·have ja: ∃v eo,vs=v::eo∧aW w S r v∧iY B w S rs eo gs:=by
    cases r<;>try (simpa only [iY] using h)
    rename_i k sz es
    cases k<;>first | (simpa only [iY] using h) | exact absurd ⟨_,_,_,rfl⟩ dh
   obtain ⟨v,eo,rfl,h1,h2⟩:=ja
   simp only [cg]
   exact ⟨v,eo,rfl,aW.kept ⟨hS,fun _ _ _ _ h=>h⟩ r v h1,iY.read hS hB rs eo gs h2⟩
theorem l2.at_ {B:Nat→Prop} : ∀(es:aj) (k8:List (List Value)) (hs:List Nat),l2 B w S es k8 hs→k8.length=es.length∧ ∀(i:Nat) (e:aw) (us:List Value),es[i]? =some e→k8[i]? =some us→ ∃gs,iY B w S e us gs
 | [],k8,hs,h=>by
  simp only [l2] at h
  exact ⟨by rw [h.1]; rfl,fun i e us he=>by simp at he⟩
 | x::es,k8,hs,h=>by
  simp only [l2] at h
  obtain ⟨us,Ep,h1,h2,rfl,_,hx,oi,_⟩:=h
  obtain ⟨k1,k2⟩:=l2.at_ es Ep h2 oi
  refine ⟨by simp only [List.length_cons,k1],fun i e Be he hu=> ?_⟩
  cases i with
  | zero=>
   cases he
   cases hu
   exact ⟨_,hx⟩
  | succ i=>exact k2 i e Be he hu
theorem oX.read {B:Nat→Prop} {S':Nat→Nat→Prop} (hS: ∀b o,S b o→S' b o) (hB: ∀b o,¬ B b→b < w.heap.size→S' b o) {el sz g:Nat} {es:aj} {v:Value} {hs:List Nat} (h:oX B w S el sz es v g hs) :aW w S' (.sl (.cT el) sz es) v:=by
 obtain ⟨cap,k8,rfl,bj,cR,hR,_⟩:=h
 obtain ⟨r1,r2⟩:=l2.at_ _ _ _ hR
 have dZ:=cR.lt
 obtain ⟨cur,cS,_,cD⟩:=cR.here
 simp only [aW]
 refine ⟨_,g,0,cap,rfl,fun _=>rfl,cR.fits,(fun h=>by cases h),gO.mk _ _ _ _ fun i e he=> ?_⟩
 have jn:=(bj e (List.mem_of_getElem? he)).1
 have hi:=(List.getElem?_eq_some_iff.1 he).1
 refine ⟨jn,iS.mk _ _ _ fun j c hc=>⟨hB _ _ cR.base dZ,?_⟩⟩
 obtain ⟨u,hu,hr⟩:=cD i j hi (by rw [← jn]; exact (List.getElem?_eq_some_iff.1 hc).1)
 have hiu:i < k8.length:=by rw [r1]; exact hi
 obtain ⟨gs,hI⟩:=r2 i e k8[i] he (List.getElem?_eq_getElem hiu)
 obtain ⟨u',g7,uz⟩:=cg.at _ _ (iY.read hS hB _ _ _ hI) j c hc
 have :=hr _ u' (List.getElem?_eq_getElem hiu) g7
 subst this
 exact ⟨u',by rw [Nat.zero_add,cell_of_row w _ _ cur el (0,0) cS]; exact hu,uz⟩
theorem cw.read {B:Nat→Prop} {S':Nat→Nat→Prop} (hS: ∀b o,S b o→S' b o) (hB: ∀b o,¬ B b→b < w.heap.size→S' b o) : ∀(rs:aw) (vs:List Value) (gs:List Nat),cw B w S rs vs gs→cg w S' (rs.map Aw) vs
 | [],vs,gs,h=>by simp only [cw] at h; simpa only [List.map_nil,cg] using h.1
 | r::rs,vs,gs,h=>by
  by_cases dh: ∃el sz es,r= .sl (.own el) sz es
  ·obtain ⟨el,sz,es,rfl⟩:=dh
   simp only [cw] at h
   obtain ⟨v,eo,g,oW,rfl,rfl,ho,_,iT⟩:=h
   simp only [List.map_cons,cg]
   exact ⟨v,eo,rfl,ho.read hS fun o=>hB _ _ ho.choose_spec.2.2.base ho.choose_spec.2.2.lt,cw.read hS hB rs eo oW iT⟩
  ·by_cases ni: ∃el sz es,r= .sl (.cT el) sz es
   ·obtain ⟨el,sz,es,rfl⟩:=ni
    simp only [cw] at h
    obtain ⟨v,eo,g,hs,oW,rfl,rfl,ho,_,_,iT⟩:=h
    simp only [List.map_cons,cg]
    exact ⟨v,eo,rfl,jY (ho.read hS hB),cw.read hS hB rs eo oW iT⟩
   have ja: ∃v eo,vs=v::eo∧aW w S r v∧cw B w S rs eo gs:=by
    cases r<;>try (simpa only [cw] using h)
    rename_i k sz es
    cases k<;>first | (simpa only [cw] using h) | exact absurd ⟨_,_,_,rfl⟩ dh | exact absurd ⟨_,_,_,rfl⟩ ni
   obtain ⟨v,eo,rfl,h1,h2⟩:=ja
   simp only [List.map_cons,cg]
   exact ⟨v,eo,rfl,jY (aW.kept ⟨hS,fun _ _ _ _ h=>h⟩ r v h1),cw.read hS hB rs eo gs h2⟩
theorem jv.read {B:Nat→Prop} {S':Nat→Nat→Prop} (hS: ∀b o,S b o→S' b o) (hB: ∀b o,¬ B b→b < w.heap.size→S' b o) {r:DV} {v:Value} (h:jv B w S r v) :aW w S' (ct r) v:=by
 have other:aW w S r v→aW w S' (ct r) v:=fun hr=>l9 (aW.kept ⟨hS,fun _ _ _ _ h=>h⟩ r v hr)
 cases r with
 | sl k sz es=>
  cases k with
  | own el=>
   simp only [jv] at h
   obtain ⟨g,ho⟩:=h
   exact ho.read hS fun o=>hB _ _ ho.choose_spec.2.2.base ho.choose_spec.2.2.lt
  | cT el=>
   simp only [jv,cw] at h
   obtain ⟨gs,v',eo,g,hs,oW,he,_,ho,_⟩:=h
   cases he
   exact jY (ho.read hS hB)
  | _=>exact other h
 | tuple rs=>
  simp only [jv] at h
  obtain ⟨vs,gs,rfl,hl⟩:=h
  simp only [ct,aW]
  exact ⟨vs,rfl,cw.read hS hB rs vs gs hl⟩
 | agg rs=>
  simp only [jv] at h
  obtain ⟨vs,gs,rfl,hl⟩:=h
  simp only [ct,aW]
  exact ⟨vs,rfl,cw.read hS hB rs vs gs hl⟩
 | _=>exact other h
theorem q8 (hI:Inv w0 S0 N ρ S st a w) (aJ:dc P call) {f:FuncId} {o:Oper} {avs:List AV} {vs:List Value} {ds:aw} {r:DV}
  (hl:aS w S ρ avs vs) (fi: ∀S',(∀v∈avs,∀x u,snap st v=some x→aE w S ρ v u→aW w S' x u)→ ∃us:List Value,cg w S' ds us∧(execOp a.eval o).run P w=(callFunc f us.toArray).run P w)
  (hr:call f ds=some r) (mW:(ba avs&& !r.plain)=false) (hK: ∀u w' S',(∀st2,Inv w0 S0 N ρ S st2 a w→Inv w0 S0 N ρ S' st2 a w')→aE w' S' ρ (.d (ct r)) u→K (a.put o.dst u) w') :o.wp P a w K Q:=by
 have qd:=aJ.aC f ds r hr
 have finish: ∀(us:List Value),(execOp a.eval o).run P w=(callFunc f us.toArray).run P w→
   (oY P f us.toArray w fun v w'=> ∃S',(∀st2,Inv w0 S0 N ρ S st2 a w→Inv w0 S0 N ρ S' st2 a w')∧aW w' S' (ct r) v)→o.wp P a w K Q:=by
  intro us bU hc
  unfold Oper.wp
  rcases hc with ⟨⟨fn,hU,gC,jX⟩,hc⟩ | ⟨v,w',F6,S',hi,hv⟩
  ·have jd:(callFunc f us.toArray).run P w= .ok (.enter f us.toArray) w:=by
    simp only [callFunc,Sem.run_bind,run_program,Result.andThen_ok,hU,gC,jX,Bool.false_eq_true,if_false,Sem.run_pure]
   rw [bU,jd]
   rw [Oper.upon_enter]
   refine hc.mono fun e w' he=> ?_
   obtain ⟨v,rfl,S',hi,hv⟩:=he
   exact hK v w' S' hi (by simpa only [aE] using hv)
  ·rw [bU,F6]
   exact hK v w' S' hi (by simpa only [aE] using hv)
 have close: ∀(S1:Nat→Nat→Prop) (w':World) (v:Value),bJ (fun k=>k < w.heap.size) w w'→(∀b o,S b o→S1 b o)→(∀b o,S1 b o→S b o∨ ¬ b < w.heap.size)→(∀b o,S1 b o→b < w'.heap.size)→jv (fun k=>k < w.heap.size) w' S1 r v→
   ∃S',(∀st2,Inv w0 S0 N ρ S st2 a w→Inv w0 S0 N ρ S' st2 a w')∧aW w' S' (ct r) v:=by
  intro S1 w' v hb Jf jR g8 ja
  refine ⟨fun b o=>S1 b o∨(¬ b < w.heap.size∧b < w'.heap.size),fun st2 sS=>sS.called hb (fun b o h=> .inl (Jf b o h)) (fun b o h=> ?_) (fun b o h=> ?_),ja.read (fun _ _ h=> .inl h) fun b o h1 h2=> .inr ⟨h1,h2⟩⟩
  ·rcases h with h | h
   ·exact jR b o h
   ·exact .inr h.1
  ·rcases h with h | h
   ·exact g8 b o h
   ·exact h.2
 by_cases LD:ba avs=true
 ·have AY:r.plain=true:=by simpa [LD] using mW
  obtain ⟨us,gP,bU⟩:=fi (uL st ρ S) fun v _ x u hx hv=>snap_all hI hx hv
  refine finish us bU ((qd w us (uL st ρ S) _ gP.args (rZ hI)).mono fun v w' he=> ?_)
  obtain ⟨S',hp⟩:=he
  have g8: ∀b o,S b o→b < w'.heap.size:=fun b o h=>Nat.lt_of_lt_of_le (hI.live b o h) hp.below.size
  obtain ⟨S2,h1,h2⟩:=close S w' v hp.below (fun _ _ h=>h) (fun _ _ h=> .inl h) g8 (hp.res.plain (fun g o hg h=>by
   exact hg (hI.live g o h)) AY)
  exact ⟨S2,h1,h2⟩
 ·have CQ:ba avs=false:=by simpa using LD
  obtain ⟨us,gP,bU⟩:=fi S fun v hv x u hx uz=>qa hI hx uz (by
   have key: ∀(l:List AV),ba l=false→ ∀c∈l,c.eV=false:=by
    intro l
    induction l with
    | nil=>simp
    | cons y l ih=>
     intro h c hc
     simp only [ba,Bool.or_eq_false_iff] at h
     rcases List.mem_cons.1 hc with rfl | hc
     ·exact h.1
     ·exact ih h.2 c hc
   exact key avs CQ v hv)
  refine finish us bU ((qd w us S _ gP.args hI.live).mono fun v w' he=> ?_)
  obtain ⟨S',hp⟩:=he
  obtain ⟨S2,h1,h2⟩:=close S' w' v hp.below hp.up hp.new hp.live hp.res
  exact ⟨S2,h1,h2⟩
theorem yZ (hI:Inv w0 S0 N ρ S st a w) (aJ:dc P call) {dst:Option Tmp} {c:Call} {type:TypeId} {pos:String} {after:Array Edge} {guard:Option (Nat×Bool)} {op:bN}
  (hc:lA P c type=some op) {v:AV} (h:cC call op st=some v) (hK: ∀u w' S',(∀st2,Inv w0 S0 N ρ S st2 a w→Inv w0 S0 N ρ S' st2 a w')→aE w' S' ρ v u→K (a.put dst u) w') :
  Oper.wp P ⟨dst,.call c,type,pos,after,guard⟩ a w K Q:=by
 have dI:cC call op st=bw st op→Oper.wp P ⟨dst,.call c,type,pos,after,guard⟩ a w K Q:=fun he=>by
  rw [he] at h
  obtain ⟨u,hr,hu⟩:=l8 (dst:=dst) (pos:=pos) (after:=after) (guard:=guard) hI hc v h
  exact ep hr (hK u w S (fun _ h=>h) hu)
 obtain ⟨callee,args,argTypes⟩:=c
 unfold lA at hc
 dsimp only at hc
 split at hc
 ·split at hc
  ·split at hc
   ·cases hc
    exact dI rfl
   ·cases hc
  ·cases hc
 ·simp only [Option.map_eq_some_iff] at hc
  obtain ⟨uy,hm,rfl⟩:=hc
  exact dI rfl
 ·simp only [Option.map_eq_some_iff] at hc
  obtain ⟨uy,hm,rfl⟩:=hc
  exact dI rfl
 ·split at hc
  ·split at hc
   ·split at hc
    ·cases hc
     exact dI rfl
    ·cases hc
   ·cases hc
  ·cases hc
 ·split at hc
  ·split at hc
   ·split at hc
    ·split at hc
     ·split at hc
      ·cases hc
       exact dI rfl
      ·cases hc
     ·cases hc
    ·cases hc
   ·cases hc
  ·cases hc
 ·rename_i f
  split at hc
  ·rename_i g fx uy Nf hm
   split at hc
   ·cases hc
    simp [cC,bw] at h
   split at hc
   ·cases hc
    simp [cC,bw] at h
   cases hc
   simp only [cC] at h
   split at h
   ·rename_i ds fi
    split at h
    ·rename_i r hr
     split at h
     ·cases h
     ·rename_i mW
      cases h
      have hl:=eU hI hm
      refine q8 hI aJ hl (fun S' hs=> ?_) hr (by simpa using mW) hK
      refine ⟨args.toList.map a.eval,iI fi hl hs,?_⟩
      simp only [execOp,resolve,Act.eval,Deferred.ofValue,Sem.run_bind,Sem.run_pure,Result.andThen_ok,invoke,Array.empty_append,Array.append_empty]
      rw [← Array.toList_map,Array.toArray_toList]
    ·cases h
   ·cases h
  ·rename_i fo fA _ _ fx uy RG hm Nf
   cases hc
   simp only [cC] at h
   split at h
   ·rename_i g caps ds hg fi
    split at h
    ·rename_i r hr
     split at h
     ·cases h
     ·rename_i mW
      cases h
      have hl:=eU hI hm
      have RH:=bh hI Nf
      refine q8 hI aJ (vs:=a.eval fo::args.toList.map a.eval) (avs:=fx.ev st::uy.map (·.ev st)) (by simp only [aS]; exact ⟨_,_,rfl,RH,hl⟩) (fun S' hs=> ?_) hr (by simpa using mW) hK
      have RI:=hs (fx.ev st) (by simp) _ _ hg RH
      simp only [aW] at RI
      obtain ⟨us,w8,nJ⟩:=RI
      refine ⟨args.toList.map a.eval++us,?_,?_⟩
      ·have h1:=iI fi hl (S':=S') fun v hv=>hs v (by simp [hv])
       exact xb.kM _ _ _ _ h1 nJ
      ·simp only [execOp,resolve,w8,Deferred.ofValue,Sem.run_bind,Sem.run_pure,Result.andThen_ok,invoke,Array.empty_append]
       rw [← Array.toList_map,← List.append_toArray,Array.toArray_toList]
    ·cases h
   ·cases h
  ·cases hc
 ·cases hc
theorem Jh (hI:Inv w0 S0 N ρ S st a w) {o:Oper} {el sz:Nat} {x:AX} (hc:ux P o.type o.op=some (.box el sz x)) {v:AV} (h:cC call (.box el sz x) st=some v)
  (hK: ∀u w' S',(∀st2,Inv w0 S0 N ρ S st2 a w→Inv w0 S0 N ρ S' st2 a w')→aE w' S' ρ v u→K (a.put o.dst u) w') :o.wp P a w K Q:=by
 obtain ⟨dst,Bi,type,pos,after,guard⟩:=o
 cases Bi<;>simp only [ux,reduceCtorEq] at hc
 case box DW x'=>
  split at hc
  ·rename_i ax bd hx hs
   cases hc
   simp only [cC] at h
   split at h
   ·rename_i ds fi
    split at h
    ·rename_i c8
     cases h
     obtain ⟨u,w1,S',hr,hi,hu⟩:=Gb (P:=P) hI (el:=el) (bh hI hx) fi c8.2
     refine ep (u:= .pointer (some u)) (w1:=w1) (by simp only [execOp,Instr.box,Sem.run_bind,hr,Result.andThen_ok,Sem.run_pure]) (hK _ w1 S' hi (by simpa only [aE] using hu))
    ·cases h
   ·cases h
  ·cases hc
 case call c=>
  exfalso
  unfold lA at hc
  (repeat' split at hc)<;>first | (cases hc; done) | (simp only [Option.map_eq_some_iff,reduceCtorEq,and_false,exists_false] at hc; done) | (simp_all; done)
 all_goals exfalso
 all_goals first
  | (simp only [Option.map_eq_some_iff,reduceCtorEq,and_false,exists_false] at hc; done)
  | (repeat' split at hc)<;>first | (cases hc; done) | (simp only [Option.map_eq_some_iff,reduceCtorEq,and_false,exists_false] at hc; done) | (simp_all; done)
theorem Ng (hI:Inv w0 S0 N ρ S st a w) {o:Oper} {el sz bytes:Nat} {z:aw} {l c:AX} (hc:ux P o.type o.op=some (.b7 el sz bytes z l c)) {v:AV} (h:cC call (.b7 el sz bytes z l c) st=some v)
  (hK: ∀u w' S',(∀st2,Inv w0 S0 N ρ S st2 a w→Inv w0 S0 N ρ S' st2 a w')→aE w' S' ρ v u→K (a.put o.dst u) w') :o.wp P a w K Q:=by
 obtain ⟨dst,Bi,type,pos,after,guard⟩:=o
 cases Bi<;>simp only [ux,reduceCtorEq] at hc
 case makeSlice T l' c'=>
  split at hc
  ·rename_i e al ac he hl iz
   split at hc
   ·rename_i sz bytes z hs hb hz
    split at hc
    ·rename_i c8
     cases hc
     simp only [cC] at h
     split at h
     ·rename_i kl m kc n hm hn
      split at h
      ·rename_i pV
       obtain ⟨rfl,c0,c1,c2,c3,c4⟩:=pV
       cases h
       have e1:=dB (bh hI hl) hm
       have e2:=dB (bh hI iz) hn
       obtain ⟨u,w1,S',hr,hi,hu⟩:=wY hI (dt he) hs hb c8.1 hz c3 c4 (kl:=kl) (kc:=kc) c0 c1 c2
       refine ep (u:=u) (w1:=w1) (by simp only [execOp,e1,e2,Sem.run_bind,hr,Result.andThen_ok,Sem.run_pure]) (hK u w1 S' hi (by simpa only [aE] using hu))
      ·cases h
     ·cases h
    ·cases hc
   ·cases hc
  ·cases hc
 case call c=>
  exfalso
  unfold lA at hc
  (repeat' split at hc)<;>first | (cases hc; done) | (simp only [Option.map_eq_some_iff,reduceCtorEq,and_false,exists_false] at hc; done) | (simp_all; done)
 all_goals exfalso
 all_goals first
  | (simp only [Option.map_eq_some_iff,reduceCtorEq,and_false,exists_false] at hc; done)
  | (repeat' split at hc)<;>first | (cases hc; done) | (simp only [Option.map_eq_some_iff,reduceCtorEq,and_false,exists_false] at hc; done) | (simp_all; done)
theorem qe (hI:Inv w0 S0 N ρ S st a w) (aJ:dc P call) {o:Oper} {op:bN} (hc:ux P o.type o.op=some op) {v:AV} (h:cC call op st=some v)
  (hK: ∀u w' S',(∀st2,Inv w0 S0 N ρ S st2 a w→Inv w0 S0 N ρ S' st2 a w')→aE w' S' ρ v u→K (a.put o.dst u) w') :o.wp P a w K Q:=by
 have dI:cC call op st=bw st op→o.wp P a w K Q:=fun he=>by
  rw [he] at h
  obtain ⟨u,hr,hu⟩:=td hI hc v h
  exact ep hr (hK u w S (fun _ h=>h) hu)
 cases op with
 | call f args=>
  obtain ⟨dst,Bi,type,pos,after,guard⟩:=o
  cases Bi<;>simp only [ux,reduceCtorEq] at hc
  case call c=>exact yZ hI aJ hc h hK
  all_goals exfalso
  all_goals first
   | (simp only [Option.map_eq_some_iff,reduceCtorEq,and_false,exists_false] at hc; done)
   | (repeat' split at hc)<;>first | (cases hc; done) | (simp only [Option.map_eq_some_iff,reduceCtorEq,and_false,exists_false] at hc; done) | (simp_all; done)
 | ej f args=>
  obtain ⟨dst,Bi,type,pos,after,guard⟩:=o
  cases Bi<;>simp only [ux,reduceCtorEq] at hc
  case call c=>exact yZ hI aJ hc h hK
  all_goals exfalso
  all_goals first
   | (simp only [Option.map_eq_some_iff,reduceCtorEq,and_false,exists_false] at hc; done)
   | (repeat' split at hc)<;>first | (cases hc; done) | (simp only [Option.map_eq_some_iff,reduceCtorEq,and_false,exists_false] at hc; done) | (simp_all; done)
 | aF el sz len z parts=>
  obtain ⟨dst,Bi,type,pos,after,guard⟩:=o
  cases Bi<;>simp only [ux,reduceCtorEq] at hc
  case buildSlice T ab3 Nh=>
   split at hc
   ·rename_i e he
    split at hc
    ·rename_i bd z' ps hs hz hm
     split at hc
     ·rename_i c8
      cases hc
      simp only [cC] at h
      split at h
      ·rename_i LC
       split at h
       ·rename_i rows bj
        split at h
        ·rename_i ds fi
         cases h
         obtain ⟨u,w1,S',hr,hi,hu⟩:=yO hI (dt he) hs c8.1 hz LC.1 LC.2 c8.2.2 hm bj fi
         refine ep (u:=u) (w1:=w1) (by simp only [execOp,Sem.run_bind,hr,Result.andThen_ok,Sem.run_pure]) (hK u w1 S' hi (by
          simp only [aE]
          cases (z.any DV.isNil)
          ·exact hu
          ·exact hu.M5))
        ·cases h
       ·cases h
      ·cases h
     ·cases hc
    ·cases hc
   ·cases hc
  case call c=>
   exfalso
   unfold lA at hc
   (repeat' split at hc)<;>first | (cases hc; done) | (simp only [Option.map_eq_some_iff,reduceCtorEq,and_false,exists_false] at hc; done) | (simp_all; done)
  all_goals exfalso
  all_goals first
   | (simp only [Option.map_eq_some_iff,reduceCtorEq,and_false,exists_false] at hc; done)
   | (repeat' split at hc)<;>first | (cases hc; done) | (simp only [Option.map_eq_some_iff,reduceCtorEq,and_false,exists_false] at hc; done) | (simp_all; done)
 | box el sz x=>exact Jh hI hc h hK
 | b7 el sz bytes z l c=>exact Ng hI hc h hK
 | _=>exact dI rfl
theorem Ni (hI:Inv w0 S0 N ρ S st a w) {o:Oper} {op:bN} (hc:ux P o.type o.op=some op) {d:Nat} (cz:o.dst=some d) (hd:d < N) {st':St} (h:oB op d st=some st')
  (hK: ∀a' w',cF w0 S0 N st' a' w'→K a' w') :o.wp P a w K Q:=by
 unfold oB at h
 split at h
 ·rename_i el sz len z parts
  obtain ⟨dst,Bi,type,pos,after,guard⟩:=o
  cases Bi<;>simp only [ux,reduceCtorEq] at hc
  case buildSlice T ab3 Nh=>
   split at hc
   ·rename_i e he
    split at hc
    ·rename_i bd z' ps hs hz hm
     split at hc
     ·rename_i c8
      cases hc
      split at h
      ·rename_i LC
       split at h
       ·rename_i rows bj
        simp only [Option.map_eq_some_iff] at h
        obtain ⟨ds,fi,rfl⟩:=h
        obtain ⟨u,w1,S',hr,hi,hu⟩:=Gn hI (dt he) hs c8.1 hz LC.1 LC.2 c8.2.2 hm bj fi
        refine ep (u:=u) (w1:=w1) (by simp only [execOp,Sem.run_bind,hr,Result.andThen_ok,Sem.run_pure]) (hK _ _ ⟨ρ,S',?_⟩)
        rw [cz]
        exact hi.put hd (by simpa only [aE] using hu)
       ·cases h
      ·cases h
     ·cases hc
    ·cases hc
   ·cases hc
  case call c=>
   exfalso
   unfold lA at hc
   (repeat' split at hc)<;>first | (cases hc; done) | (simp only [Option.map_eq_some_iff,reduceCtorEq,and_false,exists_false] at hc; done) | (simp_all; done)
  all_goals exfalso
  all_goals first
   | (simp only [Option.map_eq_some_iff,reduceCtorEq,and_false,exists_false] at hc; done)
   | (repeat' split at hc)<;>first | (cases hc; done) | (simp only [Option.map_eq_some_iff,reduceCtorEq,and_false,exists_false] at hc; done) | (simp_all; done)
 ·cases h
end
end Go.Proofs.YtglbgfcegifeeaaGreat.Vm
