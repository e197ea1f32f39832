/- A run beside what a closure may change: what is hidden in some blocks; slots that are written once. No condition. -/
import Derived.Test.YtglbgfcegifeeaaGreatZ05
set_option linter.unusedVariables false
set_option linter.unusedSimpArgs false
set_option linter.unusedSectionVars false
namespace Go.Proofs.YtglbgfcegifeeaaGreat.Vm
open Go Go.RowKit
section
variable {P:Program} {N:Nat} {R:List Nat} {call:FuncId→aw→aH}
def m0 (pins:List (Nat×Value)) (a:Act) :Prop:= ∀t v,(t,v)∈pins→a.tmps[t]? =some v
def dr (ts:List Nat) (o:Oper) :Bool:=match o.dst with | some d=> !ts.contains d | none=>true
def df (ts:List Nat) :Code→Bool
 | .skip=>true
 | .region _ ops false=>ops.toList.all (dr ts)
 | .seq a b=>df ts a&&df ts b
 | .cond _ a b=>df ts a&&df ts b
 | .block _ b=>df ts b
 | .exit _=>true
 | .ret=>true
 | _=>false
theorem m0.put {pins:List (Nat×Value)} {a:Act} {o:Oper} {v:Value} (h:m0 pins a) (ho:dr (pins.map (·.1)) o=true) :m0 pins (a.put o.dst v):=by
 intro t u ht
 have h1:=h t u ht
 unfold Act.put
 cases hd:o.dst with
 | none=>exact h1
 | some d=>
  simp only [dr,hd,Bool.not_eq_true',List.contains_eq_mem,decide_eq_false_iff_not] at ho
  have cu:d≠t:=fun e=>ho (by rw [e]; exact List.mem_map.2 ⟨(t,u),ht,rfl⟩)
  show (a.tmps.setIfInBounds d v)[t]? =some u
  rw [Array.getElem?_setIfInBounds_ne cu]
  exact h1
theorem vT {pins:List (Nat×Value)} {o:Oper} {a:Act} {K K':Act→World→Prop} {Q Q':Exit→Act→World→Prop} (hp:m0 pins a) (ho:dr (pins.map (·.1)) o=true)
  (hK: ∀a' w',m0 pins a'→K a' w'→K' a' w') (hQ: ∀e a' w',e≠ .normal→Q e a' w'→Q' e a' w') (r:Result Next) (h:o.upon P a K Q r) :o.upon P a K' Q' r:=by
 have hd: ∀d v,m0 pins ({a with defers:=d::a.defers}.put o.dst v):=fun d v=>m0.put (a:={a with defers:=d::a.defers}) (fun t v ht=>hp t v ht) ho
 unfold Oper.upon at h ⊢
 split at h<;>try exact h.elim
 ·exact hK _ _ (hp.put ho) h
 ·exact hK _ _ (hp.put ho) h
 ·exact hK _ _ (hd _ _) h
 ·refine h.mono fun e w' he=> ?_
  cases e with
  | returned v=>exact hK _ _ (hp.put ho) he
  | panicked ch=>exact hQ _ _ _ (by simp) he
  | outgrown=>
   obtain ⟨a1,w1,h1⟩:=he
   exact ⟨a1,w1,hQ _ _ _ (by simp) h1⟩
 ·exact h.mono fun v w' he=>hK _ _ (hp.put ho) he
 ·exact hQ _ _ _ (by simp) h
theorem EK {Q Q':Exit→Act→World→Prop} (hQ: ∀e a' w',e≠ .normal→Q e a' w'→Q' e a' w') (h:LetsOut Q) :LetsOut Q':=by
 obtain ⟨a1,w1,h1⟩:=h
 exact ⟨a1,w1,hQ _ _ _ (by simp) h1⟩
theorem kV {pins:List (Nat×Value)} {ops:Array Oper} {Q Q':Exit→Act→World→Prop} (ho:ops.toList.all (dr (pins.map (·.1)))=true)
  (hN: ∀a' w',m0 pins a'→Q .normal a' w'→Q' .normal a' w') (hQ: ∀e a' w',e≠ .normal→Q e a' w'→Q' e a' w') : ∀(ks:List Nat) (a:Act) (w:World),m0 pins a→wpOps P ops Q ks a w→wpOps P ops Q' ks a w
 | [],a,w,hp,h=>hN a w hp h
 | i::ks,a,w,hp,h=>by
  simp only [wpOps] at h ⊢
  cases hi:ops[i]? with
  | none=>
   simp only [hi] at h
   exact kV ho hN hQ ks a w hp h
  | some o=>
   simp only [hi] at h
   have hof:dr (pins.map (·.1)) o=true:=List.all_eq_true.1 ho o (by
    obtain ⟨dZ,he⟩:=Array.getElem?_eq_some_iff.1 hi
    rw [← he]
    exact Array.getElem_mem_toList dZ)
   simp only
   split at h
   ·rename_i hw
    rw [if_pos hw]
    rcases h with h | ⟨h1,h2⟩
    ·exact .inl (vT hp hof (fun a' w' vo hk=>kV ho hN hQ ks a' w' vo hk) hQ _ h)
    ·exact .inr ⟨h1,EK hQ h2⟩
   ·rename_i hw
    rw [if_neg hw]
    exact kV ho hN hQ ks _ w (hp.put hof) h
structure Hid where
 B:Nat
 H:Nat→(Nat→Prop)→World→Prop
 lt: ∀i G w,H i G w→ ∀k,G k→k < w.heap.size
 EL: ∀i G w w',H i G w→(∀k,k < B∨G k→w'.heap[k]? =w.heap[k]?)→w.heap.size≤w'.heap.size→H i G w'
def jA (w:World) (B:Nat) (G:Nat→Prop) (h: ∀k,k < B∨G k→k < w.heap.size) :dw:=⟨w,fun k=>k < B∨G k,h,fun _=>(0,0)⟩
structure ec (X:Hid) (w0:World) (G0:Nat→Prop) (S0:Nat→Nat→Prop) (N:Nat) (pins:List (Nat×Value)) (i:Nat) (st:St) (a:Act) (w:World) :Prop where
 ex: ∃(G:Nat→Prop) (h: ∀k,k < w0.heap.size∨G k→k < w.heap.size),(∀k,G k→G0 k∨w0.heap.size≤k)∧X.H i G w∧cF (jA w w0.heap.size G h) S0 N st a w
 below:bJ (fun k=>k < w0.heap.size∧ ¬ G0 k) w0 w
 CI:m0 pins a
 bnd:X.B≤w0.heap.size
variable {X:Hid} {w0:World} {G0:Nat→Prop} {S0:Nat→Nat→Prop} {pins:List (Nat×Value)} {i:Nat} {st st':St} {a:Act} {w:World}
theorem Inv.Nq {w w':World} {B:Nat} {G:Nat→Prop} {h: ∀k,k < B∨G k→k < w.heap.size} {h': ∀k,k < B∨G k→k < w'.heap.size} {ρ:Nat→Nat×Nat} {S:Nat→Nat→Prop} (hI:Inv (jA w B G h) S0 N ρ S st a w') :Inv (jA w' B G h') S0 N ρ S st a w':=
 ⟨hI.size,hI.defers,hI.env,hI.fV,hI.kx,hI.aT,hI.apart,hI.live,hI.up,hI.new,bJ.refl _ _,hI.small,hI.pins⟩
theorem ec.re (nY:X.B≤w0.heap.size) {G:Nat→Prop} {h: ∀k,k < w0.heap.size∨G k→k < w.heap.size} (hG: ∀k,G k→G0 k∨w0.heap.size≤k) (hH:X.H i G w) (hb:bJ (fun k=>k < w0.heap.size∧ ¬ G0 k) w0 w) {a':Act} {w':World}
  (hI:cF (jA w w0.heap.size G h) S0 N st' a' w') (hp:m0 pins a') :ec X w0 G0 S0 N pins i st' a' w':=by
 obtain ⟨ρ,S,hI⟩:=hI
 have fm:bJ (fun k=>k < w0.heap.size∨G k) w w':=hI.below
 have h': ∀k,k < w0.heap.size∨G k→k < w'.heap.size:=fun k hk=>Nat.lt_of_lt_of_le (h k hk) fm.size
 exact ⟨⟨G,h',hG,X.EL _ _ _ _ hH (fun k hk=>fm.block k (hk.elim (fun h=> .inl (Nat.lt_of_lt_of_le h nY)) .inr)) fm.size,ρ,S,hI.Nq⟩,hb.trans (fm.mono fun k hk=> .inl hk.1),hp,nY⟩
theorem ec.dU (hJ:ec X w0 G0 S0 N pins i st a w) (h:Hint) :ec X w0 G0 S0 N pins i (st.dU h) a w:=by
 obtain ⟨⟨G,hl,hG,hH,hI⟩,hb,hp,nY⟩:=hJ
 exact ⟨⟨G,hl,hG,hH,hI.dU h⟩,hb,hp,nY⟩
theorem ec.C3 {pins':List (Nat×Value)} (hJ:ec X w0 G0 S0 N pins i st a w) (h: ∀t v,(t,v)∈pins'→(t,v)∈pins) :ec X w0 G0 S0 N pins' i st a w:=
 ⟨hJ.ex,hJ.below,fun t v ht=>hJ.CI t v (h t v ht),hJ.bnd⟩
theorem tH (aJ:dc P call) {ops:Array Oper} {o:Oper} {x:aN} (hc:ix P R N ops o=some x) (ho:dr (pins.map (·.1)) o=true) (hJ:ec X w0 G0 S0 N pins i st a w) (h:iw call x st=some st') {K:Act→World→Prop} {Q:Exit→Act→World→Prop}
  (hK: ∀a' w',ec X w0 G0 S0 N pins i st' a' w'→K a' w') :
  if Region.wanted o (yielded ops a.tmps) then o.wp P a w K Q∨(o.asks P a w∧LetsOut Q) else K (a.put o.dst undef) w:=by
 obtain ⟨⟨G,hl,hG,hH,hI⟩,hb,hp,nY⟩:=hJ
 have key:=gf (Q:=fun e a' w'=>False) aJ hc hI h (K:=fun a' w'=>cF (jA w w0.heap.size G hl) S0 N st' a' w') fun a' w' e7=>e7
 split at key
 ·rename_i hw
  rw [if_pos hw]
  rcases key with key | ⟨_,_,_,hf⟩
  ·exact .inl (vT hp ho (fun a' w' vo hk=>hK a' w' (ec.re nY hG hH hb hk vo)) (fun e a' w' _ hf=>hf.elim) _ key)
  ·exact hf.elim
 ·rename_i hw
  rw [if_neg hw]
  exact hK _ _ (ec.re nY hG hH hb key (hp.put ho))
theorem Sb (aJ:dc P call) {ops:Array Oper} {l:List aN} (hm:bm (ix P R N ops) ops.toList=some l) (ho:ops.toList.all (dr (pins.map (·.1)))=true) (hJ:ec X w0 G0 S0 N pins i st a w) (h:ko call l st=some st') {Q:Exit→Act→World→Prop}
  (hQ: ∀a' w',ec X w0 G0 S0 N pins i st' a' w'→Q .normal a' w') :wpOps P ops Q (List.range ops.size) a w:=by
 obtain ⟨⟨G,hl,hG,hH,hI⟩,hb,hp,nY⟩:=hJ
 rw [List.range_eq_range']
 have key:=qm (ops:=ops) (Q:=fun e a' w'=>e= .normal∧cF (jA w w0.heap.size G hl) S0 N st' a' w') aJ ops.size 0 l (by omega) (by simpa using hm) st st' a w hI h fun a' w' e7=>⟨rfl,e7⟩
 exact kV ho (fun a' w' vo hk=>hQ a' w' (ec.re nY hG hH hb hk.2 vo)) (fun e a' w' cu hf=>absurd hf.1 cu) _ a w hp key
theorem nZ (aJ:dc P call) {run:uw} {L:Nat} : ∀(c:Code) (ac:AC),df (pins.map (·.1)) c=true→bY P R N c=some ac.erase→ ∀(st st':St) (e:Ex),exec call run L ac st=some (e,st')→ ∀(a:Act) (w:World),ec X w0 G0 S0 N pins i st a w→
  ∀(Q:Exit→Act→World→Prop),(∀a' w',ec X w0 G0 S0 N pins i st' a' w'→Q e.to a' w')→c.wp P Q a w
 | .skip,ac,ho,hc,st,st',e,h,a,w,hJ,Q,hQ=>by
  simp only [bY,Option.some.injEq] at hc
  cases tr hc.symm
  simp only [exec,Option.some.injEq,Prod.mk.injEq] at h
  obtain ⟨rfl,rfl⟩:=h
  exact wp_skip (hQ a w hJ)
 | .region id ops false,ac,ho,hc,st,st',e,h,a,w,hJ,Q,hQ=>by
  simp only [bY] at hc
  split at hc
  case h_2=>
   cases ew (Option.some.inj hc).symm
   simp [exec] at h
  rename_i l hm
  cases vM (Option.some.inj hc).symm
  simp only [exec,Option.map_eq_some_iff,Prod.mk.injEq] at h
  obtain ⟨dD,h1,rfl,rfl⟩:=h
  exact wp_region (Sb aJ hm ho hJ h1 hQ)
 | .seq x y,ac,ho,hc,st,st',e,h,a,w,hJ,Q,hQ=>by
  have Js:=Bool.and_eq_true_iff.1 (show (df (pins.map (·.1)) x&&df (pins.map (·.1)) y)=true from ho)
  simp only [bY] at hc
  cases hx:bY P R N x with
  | none=>simp [hx] at hc
  | some ax=>
   cases hy:bY P R N y with
   | none=>simp [hx,hy] at hc
   | some ay=>
    simp only [hx,hy,Option.some.injEq] at hc
    obtain ⟨ax,ay,rfl,rfl,rfl⟩:=vN hc.symm
    simp only [exec] at h
    refine wp_seq ?_
    cases he:exec call run L ax st with
    | none=>simp [he] at h
    | some r=>
     obtain ⟨e1,dD⟩:=r
     refine nZ aJ x ax Js.1 hx st dD e1 he a w hJ _ fun a' w' zq=> ?_
     cases e1 with
     | bC=>
      simp only [he] at h
      exact nZ aJ y ay Js.2 hy dD st' e h a' w' zq Q hQ
     | ex id=>
      simp only [he,Option.some.injEq,Prod.mk.injEq] at h
      obtain ⟨rfl,rfl⟩:=h
      exact hQ a' w' zq
     | ret=>
      simp only [he,Option.some.injEq,Prod.mk.injEq] at h
      obtain ⟨rfl,rfl⟩:=h
      exact hQ a' w' zq
 | .cond c x y,ac,ho,hc,st,st',e,h,a,w,hJ,Q,hQ=>by
  have Js:=Bool.and_eq_true_iff.1 (show (df (pins.map (·.1)) x&&df (pins.map (·.1)) y)=true from ho)
  simp only [bY] at hc
  split at hc
  ·rename_i axc ax ay h1 h2 h3
   simp only [Option.some.injEq] at hc
   obtain ⟨ax,ay,rfl,rfl,rfl⟩:=tu hc.symm
   simp only [exec] at h
   split at h
   ·rename_i t ht
    obtain ⟨⟨G,hl,hG,hH,ρ,S,CP⟩,hb,hp,nY⟩:=hJ
    refine wp_cond (ky (bh CP h1) ht) ?_
    have hJ:ec X w0 G0 S0 N pins i st a w:=⟨⟨G,hl,hG,hH,ρ,S,CP⟩,hb,hp,nY⟩
    cases t with
    | true=>
     simp only [if_true] at h ⊢
     exact nZ aJ x ax Js.1 h2 st st' e h a w hJ Q hQ
    | false=>
     simp only [Bool.false_eq_true,if_false] at h ⊢
     exact nZ aJ y ay Js.2 h3 st st' e h a w hJ Q hQ
   ·cases h
  ·cases ew (Option.some.inj hc).symm
   simp [exec] at h
 | .block id b,ac,ho,hc,st,st',e,h,a,w,hJ,Q,hQ=>by
  simp only [bY,Option.map_eq_some_iff] at hc
  obtain ⟨ab,hb,hc⟩:=hc
  obtain ⟨ab,rfl,rfl⟩:=rj hc.symm
  simp only [exec] at h
  refine wp_block ?_
  cases he:exec call run L ab st with
  | none=>simp [he] at h
  | some r=>
   obtain ⟨e1,dD⟩:=r
   refine nZ aJ b ab ho hb st dD e1 he a w hJ _ fun a' w' zq=> ?_
   cases e1 with
   | bC=>
    simp only [he,Option.some.injEq,Prod.mk.injEq] at h
    obtain ⟨rfl,rfl⟩:=h
    exact hQ a' w' zq
   | ex Lj=>
    simp only [he] at h
    simp only [Ex.to,Exit.inBlock]
    split at h
    ·rename_i JA
     simp only [Option.some.injEq,Prod.mk.injEq] at h
     obtain ⟨rfl,rfl⟩:=h
     rw [if_pos JA]
     exact hQ a' w' zq
    ·rename_i JA
     simp only [Option.some.injEq,Prod.mk.injEq] at h
     obtain ⟨rfl,rfl⟩:=h
     rw [if_neg JA]
     exact hQ a' w' zq
   | ret=>
    simp only [he,Option.some.injEq,Prod.mk.injEq] at h
    obtain ⟨rfl,rfl⟩:=h
    exact hQ a' w' zq
 | .exit id,ac,ho,hc,st,st',e,h,a,w,hJ,Q,hQ=>by
  simp only [bY,Option.some.injEq] at hc
  obtain ⟨o,rfl⟩:=tv hc.symm
  simp only [exec,Option.some.injEq,Prod.mk.injEq] at h
  obtain ⟨rfl,rfl⟩:=h
  refine wp_exit (hQ a w ?_)
  cases o with
  | none=>exact hJ
  | some h=>exact hJ.dU h
 | .ret,ac,ho,hc,st,st',e,h,a,w,hJ,Q,hQ=>by
  simp only [bY,Option.some.injEq] at hc
  obtain ⟨o,rfl⟩:=vO hc.symm
  simp only [exec,Option.some.injEq,Prod.mk.injEq] at h
  obtain ⟨rfl,rfl⟩:=h
  refine wp_ret (hQ a w ?_)
  cases o with
  | none=>exact hJ
  | some h=>exact hJ.dU h
 | .region _ _ true,ac,ho,_,_,_,_,_,_,_,_,_,_=>by cases ho
 | .loop _,ac,ho,_,_,_,_,_,_,_,_,_,_=>by cases ho
 | .rangeFunc _ _ _ _,ac,ho,_,_,_,_,_,_,_,_,_,_=>by cases ho
 | .scope _,ac,ho,_,_,_,_,_,_,_,_,_,_=>by cases ho
 | .label _,ac,ho,_,_,_,_,_,_,_,_,_,_=>by cases ho
 | .goto _,ac,ho,_,_,_,_,_,_,_,_,_,_=>by cases ho
 | .refuse _,ac,ho,_,_,_,_,_,_,_,_,_,_=>by cases ho
theorem Inv.beside {w w':World} {B:Nat} {G G':Nat→Prop} {h: ∀k,k < B∨G k→k < w.heap.size} {h': ∀k,k < B∨G' k→k < w'.heap.size} {ρ:Nat→Nat×Nat} {S:Nat→Nat→Prop} (hI:Inv (jA w B G h) S0 N ρ S st a w) (C4: ∀b o,S0 b o→ ¬ G b)
  (hb:bJ (fun k=>k < w.heap.size∧ ¬ G k) w w') (hG': ∀k,G' k→G k∨w.heap.size≤k) :Inv (jA w' B G' h') S0 N ρ S st a w':=by
 have Sc: ∀b o,S b o→ ¬ G b:=fun b o hs hg=>by
  rcases hI.new b o hs with h | h
  ·exact C4 b o h hg
  ·exact h (.inr hg)
 have hk:Kept w w' S S:=⟨fun _ _ h=>h,fun b p Fo u hu=>by
  rw [World.cell?] at hu ⊢
  rw [hb.block b ⟨hI.live b p Fo,Sc b p Fo⟩]; exact hu⟩
 refine ⟨hI.size,hI.defers,fun t=>aE.kept hk _ _ (hI.env t),fun n t want v he h=>aE.kept hk _ _ (hI.fV n t want v he h),hI.kx,fun s o hs=> ?_,hI.apart,fun b o h=>Nat.lt_of_lt_of_le (hI.live b o h) hb.size,hI.up,fun b o h=> ?_,bJ.refl _ _,hI.small,hI.pins⟩
 ·have hl:=(hI.aT s o hs).lt
  have gQ: ¬ G (ρ s).1:=fun hg=>hl.1 (.inr hg)
  refine bO.Na (bO.kept hk (hI.aT s o hs) (hb.block _ ⟨hl.2.1,gQ⟩) hl.2.2) fun rX=> ?_
  rcases rX with rX | rX
  ·exact hl.1 (.inl rX)
  ·rcases hG' _ rX with hg | hg
   ·exact gQ hg
   ·have :=hl.2.1
    omega
 ·rcases hI.new b o h with h1 | h1
  ·exact .inl h1
  ·refine .inr fun rX=>h1 ?_
   rcases rX with rX | rX
   ·exact .inl rX
   ·rcases hG' _ rX with hg | hg
    ·exact .inr hg
    ·have :=hI.live b o h
     omega
theorem Nr {o:Oper} {t:Nat} (cz:o.dst=some t) (ht:t < N) (ho:dr (pins.map (·.1)) o=true) (C4: ∀b o,S0 b o→b < w0.heap.size∧ ¬ G0 b) (hJ:ec X w0 G0 S0 N pins i st a w) {g:FuncId} {args:Array Value}
  (bU:(execOp a.eval o).run P w=(callFunc g args).run P w) {b:Bool}
  (jx: ∀G,X.H i G w→oY P g args w fun v w'=>v= .bool b∧ ∃G',X.H (i+1) G' w'∧bJ (fun k=>k < w.heap.size∧ ¬ G k) w w'∧ ∀k,G' k→G k∨w.heap.size≤k)
  {K:Act→World→Prop} {Q:Exit→Act→World→Prop} (hK: ∀a' w',ec X w0 G0 S0 N pins (i+1) (st.put t (.d (.bool b))) a' w'→K a' w') :o.wp P a w K Q:=by
 obtain ⟨⟨G,hl,hG,hH,ρ,S,hI⟩,fm,hp,nY⟩:=hJ
 have Ns: ∀b o,S0 b o→ ¬ G b:=fun b o hs hg=>by
  obtain ⟨h1,h2⟩:=C4 b o hs
  rcases hG b hg with h | h
  ·exact h2 h
  ·omega
 have fin: ∀v w',(v= .bool b∧ ∃G',X.H (i+1) G' w'∧bJ (fun k=>k < w.heap.size∧ ¬ G k) w w'∧ ∀k,G' k→G k∨w.heap.size≤k)→K (a.put (some t) v) w':=by
  rintro v w' ⟨rfl,G',h1,h2,h3⟩
  have h': ∀k,k < w0.heap.size∨G' k→k < w'.heap.size:=fun k hk=>by
   rcases hk with hk | hk
   ·exact Nat.lt_of_lt_of_le (hl k (.inl hk)) h2.size
   ·exact X.lt _ _ _ h1 k hk
  refine hK _ _ ⟨⟨G',h',fun k hk=> ?_,h1,ρ,S,(hI.beside Ns h2 h3).put ht (by simp only [aE,aW])⟩,fm.trans (h2.mono fun k hk=>⟨hl k (.inl hk.1),fun hg=> ?_⟩),?_,nY⟩
  ·rcases h3 k hk with h | h
   ·exact hG k h
   ·have :=fm.size
    exact .inr (by omega)
  ·rcases hG k hg with h | h
   ·exact hk.2 h
   ·have :=hk.1
    omega
  ·have :=m0.put (v:= .bool b) hp ho
   rwa [cz] at this
 unfold Oper.wp
 rcases jx G hH with ⟨⟨fn,hU,gC,jX⟩,hc⟩ | ⟨v,w',F6,hi⟩
 ·have jd:(callFunc g args).run P w= .ok (.enter g args) w:=by
   simp only [callFunc,Sem.run_bind,run_program,Result.andThen_ok,hU,gC,jX,Bool.false_eq_true,if_false,Sem.run_pure]
  rw [bU,jd,Oper.upon_enter]
  refine hc.mono fun e w' he=> ?_
  obtain ⟨v,rfl,hi⟩:=he
  rw [cz]
  exact fin v w' hi
 ·rw [bU,F6]
  have :=fin v w' hi
  rw [← cz] at this
  exact this
theorem r5 {o:Oper} {t:Nat} (cz:o.dst=some t) (ht:t < N) (ho:dr (pins.map (·.1)) o=true) (hJ:ec X w0 G0 S0 N pins i st a w) {u:Value} (bU:(execOp a.eval o).run P w= .ok (.value u) w)
  {K:Act→World→Prop} {Q:Exit→Act→World→Prop} (hK: ∀a' w',ec X w0 G0 S0 N ((t,u)::pins) i (st.put t .undef) a' w'→K a' w') :o.wp P a w K Q:=by
 obtain ⟨⟨G,hl,hG,hH,ρ,S,hI⟩,fm,hp,nY⟩:=hJ
 refine ep bU ?_
 rw [cz]
 refine hK _ _ ⟨⟨G,hl,hG,hH,ρ,S,hI.put ht (by simp only [aE])⟩,fm,fun n v hn=> ?_,nY⟩
 rcases List.mem_cons.1 hn with hn | hn
 ·cases hn
  show (a.tmps.setIfInBounds t u)[t]? =some u
  rw [Array.getElem?_setIfInBounds_self_of_lt (by rw [hI.size]; exact ht)]
 ·have :=m0.put (v:=u) hp ho n v hn
  rwa [cz] at this
def whole (w0:World) :dw:=⟨w0,fun k=>k < w0.heap.size,fun _ h=>h,fun _=>(0,0)⟩
theorem Sd (hG0: ∀k,¬ G0 k) (hJ:ec X w0 G0 S0 N pins i st a w) : ∃G ρ S,X.H i G w∧Inv (whole w0) S0 N ρ S st a w∧(∀s o,st.aT s=some o→ ¬ G (ρ s).1)∧(∀b o,S b o→S0 b o∨ ¬ G b)∧(∀k,G k→w0.heap.size≤k):=by
 obtain ⟨⟨G,hl,hG,hH,ρ,S,hI⟩,fm,hp,nY⟩:=hJ
 refine ⟨G,ρ,S,hH,⟨hI.size,hI.defers,hI.env,hI.fV,hI.kx,fun s o hs=>bO.Na (hI.aT s o hs) fun hb=>(hI.aT s o hs).lt.1 (.inl hb),hI.apart,hI.live,hI.up,fun b o h=> ?_,fm.mono fun k hk=>⟨hk,hG0 k⟩,hI.small,hI.pins⟩,fun s o hs hg=>(hI.aT s o hs).lt.1 (.inr hg),fun b o h=> ?_,fun k hk=>(hG k hk).resolve_left (hG0 k)⟩
 ·exact (hI.new b o h).imp id fun h hb=>h (.inl hb)
 ·exact (hI.new b o h).imp id fun h hb=>h (.inr hb)
theorem JD {o:Oper} {t:Nat} (cz:o.dst=some t) (ht:t < N) (ho:dr (pins.map (·.1)) o=true) (hJ:ec X w0 G0 S0 N pins i st a w) {x:DV} {u:Value} (hx: ∀w S,aW w S x u) (bU:(execOp a.eval o).run P w= .ok (.value u) w)
  {K:Act→World→Prop} {Q:Exit→Act→World→Prop} (hK: ∀a' w',ec X w0 G0 S0 N pins i (st.put t (.d x)) a' w'→K a' w') :o.wp P a w K Q:=by
 obtain ⟨⟨G,hl,hG,hH,ρ,S,hI⟩,fm,hp,nY⟩:=hJ
 refine ep bU ?_
 rw [cz]
 refine hK _ _ ⟨⟨G,hl,hG,hH,ρ,S,hI.put ht (by simp only [aE]; exact hx _ _)⟩,fm,?_,nY⟩
 have :=m0.put (v:=u) hp ho
 rwa [cz] at this
theorem zr {X':Hid} {i':Nat} (C4: ∀b o,S0 b o→b < w0.heap.size∧ ¬ G0 b) (nY:X'.B≤w0.heap.size) (hJ:ec X w0 G0 S0 N pins i st a w) {w':World}
  (h: ∀G,X.H i G w→(∀k,k < w0.heap.size→ ¬ G0 k→w.heap[k]? =w0.heap[k]?)→ ∃G',X'.H i' G' w'∧bJ (fun k=>k < w.heap.size∧ ¬ G k) w w'∧ ∀k,G' k→G k∨w.heap.size≤k) :ec X' w0 G0 S0 N pins i' st a w':=by
 obtain ⟨⟨G,hl,hG,hH,ρ,S,hI⟩,fm,hp,_⟩:=hJ
 have Ns: ∀b o,S0 b o→ ¬ G b:=fun b o hs hg=>by
  obtain ⟨h1,h2⟩:=C4 b o hs
  rcases hG b hg with h | h
  ·exact h2 h
  ·omega
 obtain ⟨G',h1,h2,h3⟩:=h G hH fun k hk hg=>fm.block k ⟨hk,hg⟩
 have h': ∀k,k < w0.heap.size∨G' k→k < w'.heap.size:=fun k hk=>by
  rcases hk with hk | hk
  ·exact Nat.lt_of_lt_of_le (hl k (.inl hk)) h2.size
  ·exact X'.lt _ _ _ h1 k hk
 refine ⟨⟨G',h',fun k hk=> ?_,h1,ρ,S,hI.beside Ns h2 h3⟩,fm.trans (h2.mono fun k hk=>⟨hl k (.inl hk.1),fun hg=> ?_⟩),hp,nY⟩
 ·rcases h3 k hk with h | h
  ·exact hG k h
  ·have :=fm.size
   exact .inr (by omega)
 ·rcases hG k hg with h | h
  ·exact hk.2 h
  ·have :=hk.1
   omega
def mP (r:DV) :Prop:= ∀(B B':Nat→Prop) (w:World) (S:Nat→Nat→Prop) (v:Value),(∀k,B' k→B k)→jv B w S r v→jv B' w S r v
theorem rl:mP .af:=fun B B' w S v _ h=>h
theorem rm (el sz:Nat) (es:aj) :mP (.sl (.own el) sz es):=fun B B' w S v hB h=>by
 obtain ⟨g,hg⟩:=h
 exact ⟨g,hg.mono hB⟩
def qv (w0:World) (G0:Nat→Prop) :dw:=⟨w0,fun k=>k < w0.heap.size∧ ¬ G0 k,fun _ h=>h.1,fun _=>(0,0)⟩
theorem GZ {fn:Func} {Bw:List RV} (hr:bm (oE P) fn.results.toList=some Bw) {r:DV} (h:jN st Bw=some r) (hm:mP r) (hJ:ec X w0 G0 S0 N pins i st a w) :
  a.defers=[]∧ ∃v,(results fn a.tmps).run P w= .ok v w∧ ∃S',iC (qv w0 G0) S0 r v w S':=by
 obtain ⟨⟨G,hl,hG,hH,ρ,S,hI⟩,fm,hp,nY⟩:=hJ
 obtain ⟨v,S',h1,h2⟩:=gV hI hr h
 refine ⟨hI.defers,v,h1,S',fm,h2.up,fun b p hs=> ?_,h2.live,hm _ _ _ _ _ (fun k hk=> ?_) h2.res⟩
 ·rcases h2.new b p hs with h | h
  ·exact .inl h
  ·exact .inr fun hb=>h (.inl hb.1)
 ·exact .inl hk.1
end
def kA:Code→Code | .seq a _=>a | c=>c
def kB:Code→Code | .seq _ b=>b | c=>c
def Se:Code→Code | .block _ b=>b | c=>c
def Sf:Code→Code | .loop b=>b | c=>c
def rJ:Code→Array Oper | .region _ ops _=>ops | _=> #[]
def xA:AC→AC | .seq a _=>a | c=>c
def xB:AC→AC | .seq _ b=>b | c=>c
def Sg:AC→AC | .block _ b=>b | c=>c
section
variable {P:Program} {N:Nat} {R:List Nat} {tab:FuncId→Option bb} {sp:FuncId→Option aR} {lsp:Nat→Option bK} {L n:Nat}
 {X:Hid} {w0:World} {G0:Nat→Prop} {S0:Nat→Nat→Prop} {pins:List (Nat×Value)} {i:Nat} {st st':St} {a:Act} {w:World}
theorem C5 {h:Hint} {ac:AC} {e:Ex} (hx: ∀k,LB tab sp lsp L n h ac st k=k e st') :kp h (exec (eZ tab sp lsp L n) (rI lsp) L ac) st=some (e,st'):=by
 have hK: ∀k,yA h (fa (eZ tab sp lsp L n) (qt tab sp lsp L n) (vS lsp) L ac) st k=fin k (kp h (exec (eZ tab sp lsp L n) (rI lsp) L ac) st):=fun k=>yB (fun st k=>ek (mM tab sp lsp L n) (pk lsp) L ac st k) st k
 have h1:=hx fun e1 s1=> @ite _ ((e1,s1)=(e,st')) (Classical.propDecidable _) (some (.bool true)) none
 unfold LB at h1
 rw [hK,if_pos rfl] at h1
 cases hb:kp h (exec (eZ tab sp lsp L n) (rI lsp) L ac) st with
 | none=>simp [hb,fin] at h1
 | some r=>
  obtain ⟨e1,s1⟩:=r
  simp only [hb,fin] at h1
  split at h1
  ·rename_i hr
   rw [hr]
  ·cases h1
theorem dg (aJ:dc P (eZ tab sp lsp L n)) {h:Hint} (Sh:h.fr=[]) {c:Code} {ac:AC} {e:Ex} (ho:df (pins.map (·.1)) c=true) (hc:bY P R N c=some ac.erase) (hx: ∀k,LB tab sp lsp L n h ac st k=k e st')
  (hJ:ec X w0 G0 S0 N pins i st a w) {Q:Exit→Act→World→Prop} (hQ: ∀a' w',ec X w0 G0 S0 N pins i st' a' w'→Q e.to a' w') :c.wp P Q a w:=by
 have hb:=C5 hx
 unfold kp at hb
 split at hb
 ·rename_i st2 he
  simp only [Sh,St.rC,Option.some.injEq,Prod.mk.injEq] at hb
  obtain ⟨rfl,rfl⟩:=hb
  exact nZ aJ c ac ho hc st st2 _ he a w hJ Q fun a' w' zq=>hQ a' w' (zq.dU h)
 ·exact nZ aJ c ac ho hc st st' _ hb a w hJ Q hQ
theorem G1 {ds:aw} {vs:List Value} (Gp:N≤49997) (hl:vs.length≤N) (fi: ∀(t:Nat) (x:DV),ds[t]? =some x→ ∃u,vs[t]? =some u∧aW w0 S0 x u) (hS: ∀b o,S0 b o→b < w0.heap.size) (hH:X.H 0 G0 w0) (nY:X.B≤w0.heap.size) (hp:m0 pins {tmps:=vs.toArray++Array.replicate (N - vs.toArray.size) undef,defers:=[]}) :
  ec X w0 G0 S0 N pins 0 (St.of ((List.range ds.length).map fun t=>(t,.d (ds.getD t .bn))) []) {tmps:=vs.toArray++Array.replicate (N - vs.toArray.size) undef,defers:=[]} w0:=by
 have hk: ∀k,k < w0.heap.size∨G0 k→k < w0.heap.size:=fun k hk=>by
  rcases hk with hk | hk
  ·exact hk
  ·exact X.lt _ _ _ hH k hk
 have qk: ∀t,(St.of ((List.range ds.length).map fun t=>(t,AV.d (ds.getD t .bn))) []).env t=if t < ds.length then AV.d (ds.getD t .bn) else .undef:=by
  intro t
  show gJ ((List.range ds.length).map fun t=>(t,AV.d (ds.getD t .bn))) t=_
  have gen: ∀l:List Nat,gJ (l.map fun t=>(t,AV.d (ds.getD t .bn))) t=if t∈l then AV.d (ds.getD t .bn) else .undef:=by
   intro l
   induction l with
   | nil=>rfl
   | cons m l ih=>
    simp only [List.map_cons,gJ,ih,List.mem_cons]
    by_cases hm:t=m
    ·subst hm
     simp
    ·rw [show Nat.beq t m=false from Bool.eq_false_iff.2 fun h=>hm (Nat.eq_of_beq_eq_true h)]
     simp [hm]
  rw [gen]
  simp only [List.mem_range]
 refine ⟨⟨G0,hk,fun k hg=> .inl hg,hH,fun _=>(0,0),S0,by simp; omega,rfl,fun t=> ?_,fun m t want v he _=> ?_,fun m t want v he _=> ?_,fun s o h=> ?_,fun s s' o o' h _ _=> ?_,hS,fun _ _ h=>h,fun _ _ h=> .inl h,bJ.refl _ _,Gp,fun _ _=>rfl⟩,bJ.refl _ _,hp,nY⟩
 ·rw [qk]
  split
  ·rename_i ht
   have hx:ds[t]? =some (ds.getD t .bn):=by
    rw [List.getD_eq_getElem?_getD,List.getElem?_eq_getElem ht]
    rfl
   obtain ⟨u,hu,hr⟩:=fi t _ hx
   have ht':t < vs.length:=(List.getElem?_eq_some_iff.1 hu).1
   have :(vs.toArray++Array.replicate (N - vs.toArray.size) undef)[t]? =some u:=by
    rw [Array.getElem?_append_left (by simpa using ht')]
    simpa using hu
   rw [Array.getD_eq_getD_getElem?,this]
   simp only [aE]
   exact hr
  ·simp only [aE]
 ·rw [qk] at he
  split at he<;>cases he
 ·rw [qk] at he
  split at he<;>cases he
 ·simp [St.of,gq] at h
 ·simp [St.of,gq] at h
end
abbrev fL:=aw→aH
def fL.ok (P:Program) (f:FuncId) (g:fL) :Prop:= ∀ds r,g ds=some r→bI P f ds r
def BA (cs:FuncId→Option fL) (f:FuncId) (ds:aw) :Option fL:=
 match fQ ds with
 | some _=>none
 | none=>cs f
def ji (cs:FuncId→Option fL) (tab:FuncId→Option bb) (L:Nat) :Nat→FuncId→aw→aH
 | 0,_,_=>none
 | n+1,f,ds=>
  match BA cs f ds with
  | some g=>g ds
  | none=>
  match tab f with
  | none=>none
  | some fn=>
   match fQ ds with
   | some (vs,os)=>
    if vs.length≤fn.ntmps then
     match exec (ji cs tab L n) uw.plain L fn.body (St.oz vs os) with
     | some (.bC,st)=>sr st os.length fn.res
     | some (.ret,st)=>sr st os.length fn.res
     | _=>none
    else none
   | none=>
   if ds.length≤fn.ntmps then
    match exec (ji cs tab L n) uw.plain L fn.body (St.init ds) with
    | some (.bC,st)=>jN st fn.res
    | some (.ret,st)=>jN st fn.res
    | _=>none
   else none
def qw (cs:FuncId→Option fL) (tab:FuncId→Option bb) (L:Nat) :Nat→cV
 | 0,_,_,_=>none
 | n+1,f,ds,k=>
  match BA cs f ds with
  | some g=>aA (g ds) fun r=>fdK r k
  | none=>
  match tab f with
  | none=>none
  | some fn=>
   match fQ ds with
   | some (vs,os)=>
    if vs.length≤fn.ntmps then
     wR vs os fun st=>fa (ji cs tab L n) (qw cs tab L n) mX.plain L fn.body st fun e st=>match e with
      | .bC=>vk st os.length fn.res k
      | .ret=>vk st os.length fn.res k
      | .ex _=>none
    else none
   | none=>
   if ds.length≤fn.ntmps then
    fa (ji cs tab L n) (qw cs tab L n) mX.plain L fn.body (St.init ds) fun e st=>match e with
     | .bC=>jt st fn.res k
     | .ret=>jt st fn.res k
     | .ex _=>none
   else none
theorem qx (cs:FuncId→Option fL) (tab:FuncId→Option bb) (L:Nat) : ∀n,cV.ok (ji cs tab L n) (qw cs tab L n)
 | 0,f,ds,k=>rfl
 | n+1,f,ds,k=>by
  simp only [qw,ji]
  cases BA cs f ds with
  | some g=>simp only [bT,FO]
  | none=>
  simp only
  cases tab f with
  | none=>rfl
  | some fn=>
   simp only
   cases fQ ds with
   | some p=>
    obtain ⟨vs,os⟩:=p
    simp only
    split
    ·simp only [vj]
     rw [ek (qx cs tab L n) mX.jM]
     cases exec (ji cs tab L n) uw.plain L fn.body (St.oz vs os) with
     | none=>rfl
     | some r=>
      obtain ⟨e,st⟩:=r
      cases e with
      | bC=>exact oO _ _ _ _
      | ret=>exact oO _ _ _ _
      | ex id=>rfl
    ·rfl
   | none=>
   simp only
   split
   ·rw [ek (qx cs tab L n) mX.jM]
    cases exec (ji cs tab L n) uw.plain L fn.body (St.init ds) with
    | none=>rfl
    | some r=>
     obtain ⟨e,st⟩:=r
     cases e with
     | bC=>exact gy _ _ _
     | ret=>exact gy _ _ _
     | ex id=>rfl
   ·rfl
theorem G2 {P:Program} {cs:FuncId→Option fL} {tab:FuncId→Option bb} (qu: ∀f jg,tab f=some jg→ ∃fn,P.funcs[f]? =some fn∧D3 P fn=some jg.erase) (A5: ∀f g,cs f=some g→g.ok P f) (L:Nat) : ∀n,dc P (ji cs tab L n):=by
 intro n
 induction n with
 | zero=>exact ⟨fun f ds r h=>by simp [ji] at h,fun f vs os x x5 h=>by simp [ji] at h⟩
 | succ n ih=>
  refine ⟨fun f ds r h=> ?_,fun f vs os x x5 h=> ?_⟩
  ·simp only [ji] at h
   cases hs:BA cs f ds with
   | some g=>
    simp only [hs] at h
    exact A5 f g (by unfold BA at hs; split at hs<;>first | (cases hs; done) | exact hs) ds r h
   | none=>
   simp only [hs] at h
   cases ht:tab f with
   | none=>simp [ht] at h
   | some jg=>
    obtain ⟨fn,hU,j9⟩:=qu f jg ht
    simp only [ht] at h
    cases hf:fQ ds with
    | some p=>
     intro w us S0 o ha hS
     exact (xl hf ha).elim
    | none=>
     simp only [hf] at h
     split at h
     ·rename_i hlen
      exact (CZ ih uw.jM hU j9 hlen h).x
     ·cases h
  ·simp only [ji,BA,tC] at h
   cases ht:tab f with
   | none=>simp [ht] at h
   | some jg=>
    obtain ⟨fn,hU,j9⟩:=qu f jg ht
    simp only [ht] at h
    split at h
    ·rename_i hlen
     exact C1 ih uw.jM hU j9 hlen h
    ·cases h
theorem EM {P:Program} {cs:FuncId→Option fL} {tab:FuncId→Option bb} (qu: ∀f jg,tab f=some jg→ ∃fn,P.funcs[f]? =some fn∧D3 P fn=some jg.erase) (A5: ∀f g,cs f=some g→g.ok P f) {L n:Nat} {f:FuncId} {r:DV} (gQ:cs f=none)
  (h:qw cs tab L (n+1) f [] some=some r) :Ft P f [] r:=by
 rw [qx cs tab L (n+1) f [] some] at h
 have h':ji cs tab L (n+1) f []=some r:=by simpa using h
 simp only [ji,BA,gQ,show fQ []=none from rfl] at h'
 cases ht:tab f with
 | none=>simp [ht] at h'
 | some jg=>
  obtain ⟨fn,hU,j9⟩:=qu f jg ht
  simp only [ht] at h'
  split at h'
  ·rename_i hlen
   exact CZ (G2 qu A5 L n) uw.jM hU j9 hlen h'
  ·cases h'
def Si:FuncId→Option fL:=fun _=>none
theorem JE {P:Program} : ∀f g,Si f=some g→g.ok P f:=fun f g h=>by cases h
def tI (q:FuncId) (s:fL) (cs:FuncId→Option fL) :FuncId→Option fL:=fun f=>if f=q then some s else cs f
theorem mj {P:Program} {q:FuncId} {s:fL} {cs:FuncId→Option fL} (hs:s.ok P q) (A5: ∀f g,cs f=some g→g.ok P f) : ∀f g,tI q s cs f=some g→g.ok P f:=by
 intro f g h
 unfold tI at h
 split at h
 ·rename_i hf
  cases h
  rw [hf]
  exact hs
 ·exact A5 f g h
end Go.Proofs.YtglbgfcegifeeaaGreat.Vm
