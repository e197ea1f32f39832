/- Operations of the pure machine whose order is open: they may change places. No condition. -/
import Derived.Test.YtglbgfcegifeeaaGreatZ03
set_option linter.unusedVariables false
set_option linter.unusedSimpArgs false
set_option linter.unusedSectionVars false
namespace Go.Proofs.YtglbgfcegifeeaaGreat.Vm
open Go Go.RowKit
section
variable {st st2:St} {rs:List Nat} {call:FuncId→aw→aH}
def gj (rs:List Nat) (st st2:St) :Prop:= ∀n∈rs,st2.env n=st.env n∨ ∃d want v,d ∉ rs∧st.env n= .w d want v∧st2.env n= .undef
theorem gj.ev (h:gj rs st st2) {x:AX} (hx: ∀n∈x.rd,n∈rs) :x.ev st2=x.ev st:=by
 cases x with
 | t n=>
  simp only [AX.ev]
  rcases h n (hx n (by simp [AX.rd])) with h | ⟨d,wa,v,_,h1,h2⟩
  ·rw [h]
  ·rw [h1,h2]; rfl
 | k c=>rfl
 | fn g=>rfl
theorem gj.under (h:gj rs st st2) {t:Nat} (ht:t∈rs) (want:Bool) :gj rs (st.under t want) (st2.under t want):=by
 intro n hn
 simp only [St.under]
 rcases h n hn with h | ⟨d,wa,v,hd,h1,h2⟩
 ·exact .inl (by rw [h])
 ·refine .inr ⟨d,wa,v,hd,?_,by rw [h2]; rfl⟩
  rw [h1]
  simp only [AV.un]
  rw [if_neg]
  rintro ⟨rfl,_⟩
  exact hd ht
theorem gj.Gv (h:gj rs st st2) {xs:List AX} (hx: ∀n∈xs.flatMap AX.rd,n∈rs) :xs.map (·.ev st2)=xs.map (·.ev st):=
 List.map_congr_left fun x hxm=>h.ev fun n hn=>hx n (List.mem_flatMap.2 ⟨x,hxm,hn⟩)
theorem gj.opt (h:gj rs st st2) {x:Option AX} (hx: ∀n∈MG x,n∈rs) :dV st2 x=dV st x:=by
 cases x with
 | none=>rfl
 | some x=>simp only [dV,h.ev (x:=x) hx]
theorem gj.bool (h:gj rs st st2) {t:Nat} (ht:t∈rs) (b:Bool) :st2.env t= .d (.bool b)↔st.env t= .d (.bool b):=by
 rcases h t ht with h | ⟨d,wa,v,_,h1,h2⟩
 ·rw [h]
 ·rw [h1,h2]; simp
theorem Es (h:st2.aT=st.aT) (g:Bool) (sz:Nat) (v:AV) :dJ st2 g sz v=dJ st g sz v:=by
 unfold dJ
 rw [h]
theorem kN (g:Bool) (sz:Nat) (x:DV) :dJ st2 g sz (.d x)=dJ st g sz (.d x):=by cases x<;>rfl
theorem o8 (h:st2.aT=st.aT) : ∀n,bp st2 n=bp st n
 | 0=>by
  funext v
  cases v<;>simp only [bp]
 | n+1=>by
  funext v
  cases v<;>simp only [bp,o8 h n,h]
theorem te (h:st2.aT=st.aT) :snap st2=snap st:=by
 funext v
 simp only [snap,o8 h]
theorem vu (h:gj rs st st2) : ∀(parts:List (Nat×Nat×AX)) (cells:List AV),(∀n∈parts.flatMap (fun p=>p.2.2.rd),n∈rs)→k6 st2 cells parts=k6 st cells parts
 | [],cells,_=>rfl
 | (off,size,x)::l,cells,hp=>by
  have h1:x.ev st2=x.ev st:=h.ev fun n hn=>hp n (by simp [hn])
  have h2:=vu h l
  simp only [k6,h1]
  split
  ·exact h2 _ fun n hn=>hp n (by rw [List.flatMap_cons]; exact List.mem_append.2 (.inr hn))
  ·rfl
theorem mI (h:gj rs st st2) (sz:Nat) : ∀(parts:List (Nat×AX)) (rows:List (List AV)),(∀n∈parts.flatMap (fun p=>p.2.rd),n∈rs)→dq st2 sz rows parts=dq st sz rows parts
 | [],rows,_=>rfl
 | (i,x)::l,rows,hp=>by
  have h1:x.ev st2=x.ev st:=h.ev fun n hn=>hp n (by simp [hn])
  have h2:=mI h sz l
  simp only [dq,h1]
  split
  ·exact h2 _ fun n hn=>hp n (by rw [List.flatMap_cons]; exact List.mem_append.2 (.inr hn))
  ·rfl
theorem Et (h:gj rs st st2) {op:bN} (hr: ∀n∈op.reads,n∈rs) (aZ:op.cls= .p∨st2.aT=st.aT) :bw st2 op=bw st op:=by
 have ev: ∀{x:AX},(∀n∈x.rd,n∈op.reads)→x.ev st2=x.ev st:=fun hx=>h.ev fun n hn=>hr n (hx n hn)
 have Gv: ∀{xs:List AX},(∀n∈xs.flatMap AX.rd,n∈op.reads)→xs.map (·.ev st2)=xs.map (·.ev st):=fun hx=>h.Gv fun n hn=>hr n (hx n hn)
 cases op with
 | mv x=>simp only [bw]; rw [ev (x:=x) fun n hn=>by simpa [bN.reads] using hn]
 | pick c a b=>
  simp only [bw]
  cases c with
  | t t=>
   have ht:t∈rs:=hr t (by simp [bN.reads,AX.rd])
   have ha:a.ev (st2.under t true)=a.ev (st.under t true):=(h.under ht true).ev fun n hn=>hr n (by simp [bN.reads,hn])
   have hb:b.ev (st2.under t false)=b.ev (st.under t false):=(h.under ht false).ev fun n hn=>hr n (by simp [bN.reads,hn])
   simp only [ha,hb]
   rcases h t ht with h | ⟨d,wa,v,_,h1,h2⟩
   ·rw [h]
   ·rw [h1,h2]
  | k c=>rfl
  | fn g=>rfl
 | box el sz x=>rfl
 | alloc el sz z=>rfl
 | build z parts=>simp only [bw]; rw [vu h parts _ fun n hn=>hr n (by simpa [bN.reads] using hn)]
 | aF el sz len z parts=>rfl
 | load g sz x z=>
  have hs:st2.aT=st.aT:=by simpa [bN.cls] using aZ
  simp only [bw]
  rw [ev (x:=x) fun n hn=>by simpa [bN.reads] using hn,Es hs]
 | store sz a x=>rfl
 | bin op x y=>simp only [bw]; rw [ev (x:=x) fun n hn=>by simp [bN.reads,hn],ev (x:=y) fun n hn=>by simp [bN.reads,hn]]
 | IJ op x y=>simp only [bw]; rw [ev (x:=x) fun n hn=>by simp [bN.reads,hn],ev (x:=y) fun n hn=>by simp [bN.reads,hn]]
 | eqs op k x y=>simp only [bw]; rw [ev (x:=x) fun n hn=>by simp [bN.reads,hn],ev (x:=y) fun n hn=>by simp [bN.reads,hn]]
 | lh op x y=>simp only [bw]; rw [ev (x:=x) fun n hn=>by simp [bN.reads,hn],ev (x:=y) fun n hn=>by simp [bN.reads,hn]]
 | jq op x=>simp only [bw]; rw [ev (x:=x) fun n hn=>by simpa [bN.reads] using hn]
 | eH op x=>simp only [bw]; rw [ev (x:=x) fun n hn=>by simpa [bN.reads] using hn]
 | du rQ m x y=>simp only [bw]; rw [ev (x:=x) fun n hn=>by simp [bN.reads,hn],ev (x:=y) fun n hn=>by simp [bN.reads,hn]]
 | mU m x lo hi=>
  simp only [bw]
  rw [ev (x:=x) fun n hn=>by simp [bN.reads,hn]]
  unfold sk
  rw [h.opt (x:=lo) fun n hn=>hr n (by simp [bN.reads,hn]),h.opt (x:=hi) fun n hn=>hr n (by simp [bN.reads,hn])]
 | copy x y=>rfl
 | aJ f args=>rfl
 | un op x=>simp only [bw]; rw [ev (x:=x) fun n hn=>by simpa [bN.reads] using hn]
 | conv k x=>simp only [bw]; rw [ev (x:=x) fun n hn=>by simpa [bN.reads] using hn]
 | aD off x=>simp only [bw]; rw [ev (x:=x) fun n hn=>by simpa [bN.reads] using hn]
 | bc sz x y z=>simp only [bw]; rw [ev (x:=x) fun n hn=>by simp [bN.reads,hn],ev (x:=y) fun n hn=>by simp [bN.reads,hn]]
 | slice sz x lo hi m=>
  simp only [bw]
  rw [ev (x:=x) fun n hn=>by simp [bN.reads,hn]]
  unfold iL
  rw [h.opt (x:=lo) fun n hn=>hr n (by simp [bN.reads,hn]),h.opt (x:=hi) fun n hn=>hr n (by simp [bN.reads,hn]),h.opt (x:=m) fun n hn=>hr n (by simp [bN.reads,hn])]
 | ext x i=>simp only [bw]; rw [ev (x:=x) fun n hn=>by simpa [bN.reads] using hn]
 | len x=>simp only [bw]; rw [ev (x:=x) fun n hn=>by simpa [bN.reads] using hn]
 | mx xs=>simp only [bw]; rw [Gv (xs:=xs) fun n hn=>by simpa [bN.reads] using hn]
 | mn xs=>simp only [bw]; rw [Gv (xs:=xs) fun n hn=>by simpa [bN.reads] using hn]
 | append el sz b x y=>rfl
 | b7 el sz b z l c=>rfl
 | kd f caps=>simp only [bw]; rw [Gv (xs:=caps) fun n hn=>by simpa [bN.reads] using hn]
 | call f args=>rfl
 | eO f x args=>rfl
 | ej f args=>rfl
theorem vw (h:gj rs st st2) {op:bN} (hr: ∀n∈op.reads,n∈rs) (aZ:op.cls= .p∨st2.aT=st.aT) :cC call op st2=cC call op st:=by
 have hv:=Et h hr aZ
 cases op with
 | call f args=>
  have hs:st2.aT=st.aT:=by simpa [bN.cls] using aZ
  simp only [cC]
  rw [te hs,h.Gv (xs:=args) fun n hn=>hr n (by simpa [bN.reads] using hn)]
 | ej f args=>
  have hs:st2.aT=st.aT:=by simpa [bN.cls] using aZ
  simp only [cC]
  rw [te hs,h.Gv (xs:=args) fun n hn=>hr n (by simp only [bN.reads,List.mem_append]; exact .inr hn),h.ev (x:=f) fun n hn=>hr n (by simp [bN.reads,hn])]
 | aF el sz len z parts=>
  simp only [cC]
  rw [mI h sz parts _ fun n hn=>hr n (by simpa [bN.reads] using hn)]
 | box el sz x=>
  simp only [cC]
  rw [h.ev (x:=x) fun n hn=>hr n (by simpa [bN.reads] using hn)]
 | b7 el sz b z l c=>
  simp only [cC]
  rw [h.ev (x:=l) fun n hn=>hr n (by simp [bN.reads,hn]),h.ev (x:=c) fun n hn=>hr n (by simp [bN.reads,hn])]
 | _=>exact hv
theorem qf (h:gj rs st st2) : ∀(up:List (Nat×Bool)) (t:Nat) (want:Bool),t∈rs→(∀p∈up,p.1∈rs)→(st.iv t want up=none∧st2.iv t want up=none)∨ ∃g g2,st.iv t want up=some g∧st2.iv t want up=some g2∧gj rs g g2∧g.aT=st.aT∧g2.aT=st2.aT
 | [],t,want,ht,_=>by
  simp only [St.iv]
  rcases h t ht with h1 | ⟨d,wa,v,_,h1,h2⟩
  ·rw [h1]
   split
   ·exact .inr ⟨_,_,rfl,rfl,h.under ht want,rfl,rfl⟩
   ·exact .inl ⟨rfl,rfl⟩
  ·rw [h1,h2]
   exact .inl ⟨rfl,rfl⟩
 | (t',ck)::up,t,want,ht,hu=>by
  simp only [St.iv]
  rcases h t ht with h1 | ⟨d,wa,v,hd,h1,h2⟩
  ·rw [h1]
   split
   ·exact .inr ⟨_,_,rfl,rfl,h.under ht want,rfl,rfl⟩
   ·split
    ·rcases qf h up t' ck (hu (t',ck) (by simp)) (fun p hp=>hu p (by simp [hp])) with ⟨e1,e2⟩ | ⟨g,g2,e1,e2,e3,e4,e5⟩
     ·rw [e1,e2]
      exact .inl ⟨rfl,rfl⟩
     ·rw [e1,e2]
      exact .inr ⟨_,_,rfl,rfl,e3.under ht want,e4,e5⟩
    ·exact .inl ⟨rfl,rfl⟩
   ·exact .inl ⟨rfl,rfl⟩
  ·rw [h1,h2]
   have : ¬ (d=t'∧wa=ck):=by
    rintro ⟨rfl,_⟩
    exact hd (hu (d,ck) (by simp))
   simp [this]
theorem qg (h:gj rs st st2) : ∀(up:List (Nat×Bool)) (t:Nat) (want:Bool),t∈rs→(∀p∈up,p.1∈rs)→st2.dead t want up=st.dead t want up
 | [],t,want,ht,_=>by
  simp only [St.dead]
  rcases h t ht with h1 | ⟨d,wa,v,_,h1,h2⟩
  ·rw [h1]
  ·rw [h1,h2]
 | (t',ck)::up,t,want,ht,hu=>by
  have ih:=qg h up t' ck (hu (t',ck) (by simp)) fun p hp=>hu p (by simp [hp])
  simp only [St.dead,ih]
  rcases h t ht with h1 | ⟨d,wa,v,hd,h1,h2⟩
  ·rw [h1]
  ·rw [h1,h2]
   have : ¬ (d=t'∧wa=ck):=by
    rintro ⟨rfl,_⟩
    exact hd (hu (d,ck) (by simp))
   simp [this]
theorem jZ {i:aN} (h:gj i.reads st st2) (aZ:i.op.cls= .p∨st2.aT=st.aT) :fG call i st2=fG call i st:=by
 unfold fG
 cases hg:i.g with
 | none=>
  simp only
  rw [vw h (fun n hn=>by simp [aN.reads,hn]) aZ]
 | some tw=>
  obtain ⟨t,want⟩:=tw
  have ht:t∈i.reads:=by simp [aN.reads,hg]
  have hu: ∀p∈i.up,p.1∈i.reads:=fun p hp=>by simp only [aN.reads,List.mem_append,List.mem_map]; exact .inr (.inl ⟨p,hp,rfl⟩)
  simp only
  rw [qg h i.up t want ht hu]
  rcases qf h i.up t want ht hu with ⟨e1,e2⟩ | ⟨g,g2,e1,e2,e3,e4,e5⟩
  ·rw [e1,e2]
  ·rw [e1,e2]
   simp only
   rw [vw e3 (fun n hn=>by simp [aN.reads,hn]) (aZ.imp id fun hs=>by rw [e4,e5,hs])]
theorem er {d:Nat} {v:AV} (hd:d ∉ rs) :gj rs st (st.put d v):=by
 intro n hn
 have cu:n≠d:=fun e=>hd (e ▸ hn)
 simp only [St.put,if_neg cu]
 generalize st.env n=x
 cases x with
 | w t want v=>
  simp only [AV.cH]
  by_cases h:t=d
  ·subst h
   exact .inr ⟨_,_,_,hd,rfl,if_pos rfl⟩
  ·exact .inl (if_neg h)
 | _=>exact .inl rfl
theorem y0 (h:st2.env=st.env) :gj rs st st2:=fun n _=> .inl (by rw [h])
theorem mJ {i:aN} {v:AV} (h:fG call i st=some v) {e:Nat} (he:e ∉ i.reads) :v.cH e=v:=by
 unfold fG at h
 cases hg:i.g with
 | none=>
  simp only [hg,Option.map_eq_some_iff] at h
  obtain ⟨u,_,rfl⟩:=h
  cases u<;>rfl
 | some tw=>
  obtain ⟨t,want⟩:=tw
  have ht:t∈i.reads:=by simp [aN.reads,hg]
  have hte:t≠e:=fun (e':t=e)=>he (e' ▸ ht)
  simp only [hg] at h
  (repeat' split at h)<;>first
   | (cases h; done)
   | (cases h; simp only [AV.cH]; rw [if_neg hte])
   | (simp only [Option.map_eq_some_iff] at h; obtain ⟨x,_,rfl⟩:=h; simp only [AV.cH]; rw [if_neg hte])
theorem tf (v:AV) (d e:Nat) :(v.cH d).cH e=(v.cH e).cH d:=by
 cases v<;>try rfl
 rename_i t want v
 by_cases h1:t=d<;>by_cases h2:t=e<;>simp [AV.cH,h1,h2]<;>(try subst h1)<;>(try subst h2)<;>simp_all [AV.cH]
theorem kO {d e:Nat} {u v:AV} (cu:d≠e) (hv:v.cH e=v) (hu:u.cH d=u) :(st.put d v).put e u=(st.put e u).put d v:=by
 simp only [St.put,St.mk.injEq,and_true]
 funext n
 by_cases h1:n=d
 ·subst h1
  simp [cu,hv]
 ·by_cases h2:n=e
  ·subst h2
   simp [h1,hu]
  ·simp [h1,h2,tf]
theorem gT (e:Nat→AV) (sz:Nat) (a x:AV) {st':St} (h:fE st sz a x=some st') :st'.env=st.env∧fE ⟨e,st.aT⟩ sz a x=some ⟨e,st'.aT⟩:=by
 unfold fE at h ⊢
 split at h
 ·simp only at h ⊢
  split at h
  ·rename_i hc
   rw [if_pos hc]
   split at h
   ·rename_i hs
    split at h
    ·rename_i hz
     try rw [if_pos hz]
     split at h
     ·rename_i he
      try simp only [he]
      split at h
      ·rename_i ho
       try rw [if_pos ho]
       split at h
       ·rename_i hd
        cases h
        exact ⟨rfl,by first | rfl | (simp only [hd]; rfl)⟩
       ·rename_i hd
        cases h
        exact ⟨rfl,by first | rfl | (simp only [hd]; rfl)⟩
      ·cases h
     ·cases h
    ·cases h
   ·rename_i hs
    split at h
    ·rename_i hz
     try rw [if_pos hz]
     split at h
     ·rename_i he
      try simp only [he]
      split at h
      ·rename_i ho
       try rw [if_pos ho]
       cases h
       exact ⟨rfl,rfl⟩
      ·cases h
     ·cases h
    ·cases h
   ·cases h
  ·cases h
 ·cases h
theorem Eu {sz s bd i off:Nat} {x:AV} {st':St} (h:fE st sz (.ptr s bd i off) x=some st') {n:Nat} (hn:n≠s) :st'.aT n=st.aT n:=by
 unfold fE at h
 simp only at h
 (repeat' split at h)<;>first | cases h; done | (cases h; simp [St.jJ,hn])
theorem tg {i:aN} (h:i.cls= .p∨i.cls= .r∨i.cls= .s) :i.e=false∧i.op.cls=i.cls:=by
 unfold aN.cls at h ⊢
 cases he:i.e with
 | true=>simp [he] at h
 | false=>exact ⟨rfl,rfl⟩
theorem dE {i:aN} (h:i.cls= .p∨i.cls= .r) :bD call i st=fU call i st:=by
 obtain ⟨he,hc⟩:=tg (i:=i) (by rcases h with h | h<;>simp [h])
 rw [← hc] at h
 unfold bD
 rw [he]
 simp only [Bool.false_eq_true,if_false]
 split
 ·rename_i he
  rw [he] at h
  simp [bN.cls] at h
 ·rfl
theorem xc {i:aN} (h:i.cls= .s) {st':St} (hs:bD call i st=some st') : ∃sz a x,i.op= .store sz a x∧i.g=none∧i.dst=none∧i.e=false∧fE st sz (a.ev st) (x.ev st)=some st':=by
 obtain ⟨he,hc⟩:=tg (i:=i) (by simp [h])
 rw [← hc] at h
 unfold bD at hs
 rw [he] at hs
 simp only [Bool.false_eq_true,if_false] at hs
 split at hs
 ·rename_i sz a x uB
  split at hs
  ·rename_i h1 h2
   exact ⟨sz,a,x,uB,h1,h2,he,hs⟩
  ·cases hs
 ·rename_i cu
  cases cU:i.op<;>simp [cU,bN.cls] at h
  exact absurd cU (cu _ _ _)
theorem et {i:aN} {st':St} (h:fU call i st=some st') : ∃d v,i.dst=some d∧fG call i st=some v∧st'=st.put d v:=by
 unfold fU at h
 split at h
 ·rename_i d hd
  simp only [Option.map_eq_some_iff] at h
  obtain ⟨v,hv,rfl⟩:=h
  exact ⟨d,v,hd,hv,rfl⟩
 ·cases h
theorem apart_spec {x y:aN} (h:gN x y=true) :(∀d,x.dst=some d→d ∉ y.reads∧y.dst≠some d)∧ ∀d,y.dst=some d→d ∉ x.reads:=by
 refine ⟨fun d hd=> ?_,fun d hd=> ?_⟩<;>simp [gN,hd] at h
 ·exact ⟨h.1.1,fun e=>h.1.2 e⟩
 ·exact h.2
structure St.No (t:Nat) (st:St) :Prop where
 env: ∀n,(st.env n).has t=false
 aT: ∀n o,st.aT n=some o→o.has t=false
 free:st.aT t=none
theorem cA {t:Nat} : ∀{l:List AV},eJ t l=false↔ ∀c∈l,c.has t=false
 | []=>by simp [eJ]
 | x::l=>by simp only [eJ,Bool.or_eq_false_iff,cA (l:=l),List.mem_cons,forall_eq_or_imp]
theorem mK {t:Nat} {v:AV} (h:v.has t=false) :v.strip.has t=false:=by
 cases v<;>first | exact h | rfl
theorem Gw {t:Nat} {v:AV} (h:v.has t=false) :v.kill t=v:=by simp [AV.kill,h]
theorem Ji {t:Nat} {o:Ob} (h:o.has t=false) :o.kill t=some o:=by simp [Ob.kill,h]
theorem qh {t s:Nat} {v:AV} (h:v.has t=false) :(v.kill s).has t=false:=by
 unfold AV.kill
 split
 ·rfl
 ·exact h
theorem Ev {t d:Nat} {v:AV} (h:v.has t=false) :(v.cH d).has t=false:=by
 cases v<;>first | exact h | skip
 simp only [AV.cH]
 split
 ·rfl
 ·exact h
theorem Nj {t d:Nat} {want:Bool} {v:AV} (h:v.has t=false) :(v.un d want).has t=false:=by
 cases v<;>first | exact h | skip
 simp only [AV.un]
 split
 ·exact mK h
 ·exact h
theorem y6 {t s:Nat} {o o':Ob} (h:o.has t=false) (hk:o.kill s=some o') :o'.has t=false:=by
 unfold Ob.kill at hk
 split at hk<;>cases hk
 exact h
section
variable {t:Nat}
theorem St.No.ev (h:st.No t) (x:AX) :(x.ev st).has t=false:=by
 cases x with
 | t n=>exact mK (h.env n)
 | k c=>rfl
 | fn g=>rfl
theorem St.No.under (h:st.No t) (d:Nat) (want:Bool) :(st.under d want).No t:=⟨fun n=>Nj (h.env n),h.aT,h.free⟩
theorem St.No.put (h:st.No t) {d:Nat} {v:AV} (hv:v.has t=false) :(st.put d v).No t:=⟨fun n=>by
 simp only [St.put]
 split
 ·exact hv
 ·exact Ev (h.env n),h.aT,h.free⟩
theorem St.No.jJ (h:st.No t) {s:Nat} {o:Ob} (hs:s≠t) (ho:o.has t=false) :(st.jJ s o).No t:=⟨h.env,fun n o' hn=>by
 simp only [St.jJ] at hn
 split at hn
 ·cases hn; exact ho
 ·exact h.aT n o' hn,by simp only [St.jJ,if_neg (Ne.symm hs)]; exact h.free⟩
theorem St.No.at_ (h:st.No t) {s:Nat} {o:Ob} (hs:s≠t) (ho:o.has t=false) :(st.at_ s o).No t:=⟨fun n=>qh (h.env n),fun n o' hn=>by
 simp only [St.at_] at hn
 split at hn
 ·cases hn; exact ho
 ·simp only [Option.bind_eq_some_iff] at hn
  obtain ⟨o1,h1,h2⟩:=hn
  exact y6 (h.aT n o1 h1) h2,by simp only [St.at_,if_neg (Ne.symm hs),h.free]; rfl⟩
theorem St.No.drop (h:st.No t) (s:Nat) :(st.drop s).No t:=⟨h.env,fun n o hn=>by
 simp only [St.drop] at hn
 split at hn
 ·cases hn
 ·exact h.aT n o hn,by simp only [St.drop]; split<;>first | rfl | exact h.free⟩
theorem St.No.gE (h:st.No t) (s:Nat) :(st.gE s).No t:=⟨fun n=>qh (h.env n),fun n o hn=>by
 simp only [St.gE] at hn
 split at hn
 ·cases hn
 ·simp only [Option.bind_eq_some_iff] at hn
  obtain ⟨o1,h1,h2⟩:=hn
  exact y6 (h.aT n o1 h1) h2,by simp only [St.gE,h.free]; split<;>rfl⟩
theorem St.No.at_eq (h:st.No t) (o:Ob) :st.at_ t o={env:=st.env,aT:=fun n=>if n=t then some o else st.aT n}:=by
 simp only [St.at_,St.mk.injEq]
 refine ⟨funext fun n=>Gw (h.env n),funext fun n=> ?_⟩
 split
 ·rfl
 ·cases hs:st.aT n with
  | none=>rfl
  | some o1=>exact Ji (h.aT n o1 hs)
theorem St.No.cells {v:AV} (h:v.has t=false) : ∀c∈v.cells,c.has t=false:=by
 cases v with
 | d x=>
  cases x<;>intro c hc<;>simp only [AV.cells,List.mem_singleton,List.mem_map] at hc
  all_goals first
   | (subst hc; rfl)
   | (obtain ⟨d,_,rfl⟩:=hc; rfl)
 | agg cs=>exact cA.1 h
 | _=>
  intro c hc
  simp only [AV.cells,List.mem_singleton] at hc
  subst hc
  exact h
theorem St.No.iv: ∀{up:List (Nat×Bool)} {d:Nat} {want:Bool} {g:St},st.No t→st.iv d want up=some g→g.No t
 | [],d,want,g,h,hg=>by
  simp only [St.iv] at hg
  split at hg<;>cases hg
  exact h.under _ _
 | (d',ck)::up,d,want,g,h,hg=>by
  simp only [St.iv] at hg
  split at hg
  ·cases hg
   exact h.under _ _
  ·split at hg
   ·simp only [Option.map_eq_some_iff] at hg
    obtain ⟨g1,h1,rfl⟩:=hg
    exact (St.No.iv h h1).under _ _
   ·cases hg
  ·cases hg
theorem qi {cells cs:List AV} {off:Nat} (h1: ∀c∈cells,c.has t=false) (h2: ∀c∈cs,c.has t=false) : ∀c∈aU cells off cs,c.has t=false:=by
 intro c hc
 simp only [aU,List.mem_append] at hc
 rcases hc with (hc | hc) | hc
 ·exact h1 c (List.mem_of_mem_take hc)
 ·exact h2 c hc
 ·exact h1 c (List.mem_of_mem_drop hc)
theorem St.No.fill (h:st.No t) : ∀{parts:List (Nat×Nat×AX)} {cells r:List AV},(∀c∈cells,c.has t=false)→k6 st cells parts=some r→ ∀c∈r,c.has t=false
 | [],cells,r,hc,hr=>by simp only [k6,Option.some.injEq] at hr; subst hr; exact hc
 | (off,size,x)::parts,cells,r,hc,hr=>by
  simp only [k6] at hr
  split at hr
  ·exact St.No.fill h (qi hc (St.No.cells (h.ev x))) hr
  ·cases hr
theorem Gx {cs:List AV} (h: ∀c∈cs,c.has t=false) :(uU cs).has t=false:=by
 unfold uU
 split
 ·rfl
 ·exact cA.2 h
theorem Gy (h:st.No t) {g:Bool} {sz:Nat} {v u:AV} (hu:dJ st g sz v=some u) :u.has t=false:=by
 have hd: ∀{off:Nat} {e:aw},wy g sz off e=some u→u.has t=false:=by
  intro off e hv
  unfold wy at hv
  split at hv
  ·split at hv<;>cases hv
   rfl
  ·simp only [Option.map_eq_some_iff] at hv
   obtain ⟨c,_,rfl⟩:=hv
   rfl
 have ha: ∀{off:Nat} {e:List AV},(∀c∈e,c.has t=false)→DS g sz off e=some u→u.has t=false:=by
  intro off e he hv
  unfold DS at hv
  split at hv
  ·split at hv<;>cases hv
   exact cA.2 fun c hc=>he c (List.mem_of_mem_drop (List.mem_of_mem_take hc))
  ·exact he u (List.mem_of_getElem? hv)
 unfold dJ at hu
 split at hu
 ·exact hd hu
 ·rename_i s bd i off
  split at hu
  ·split at hu
   ·simp only [Option.bind_eq_some_iff] at hu
    obtain ⟨e,_,h2⟩:=hu
    exact hd h2
   ·cases hu
  ·rename_i el cO es aZ
   split at hu
   ·simp only [Option.bind_eq_some_iff] at hu
    obtain ⟨e,he,h2⟩:=hu
    have ho:=h.aT _ _ aZ
    simp only [Ob.has,List.any_eq_false,Bool.not_eq_true] at ho
    exact ha (cA.1 (ho e (List.mem_of_getElem? he))) h2
   ·cases hu
  ·cases hu
 ·cases hu
theorem xd {f:Option AV→AV→Option AV} (hf: ∀a b u,f a b=some u→u.has t=false) : ∀(l:List AV) (a:Option AV) (u:AV),(∀v,a=some v→v.has t=false)→l.foldl f a=some u→u.has t=false
 | [],a,u,ha,h=>ha u h
 | x::l,a,u,ha,h=>xd hf l _ u (fun v hv=>hf _ _ _ hv) h
theorem CT (h:st.No t) {op:bN} {v:AV} (hv:bw st op=some v) :v.has t=false:=by
 cases op<;>simp only [bw] at hv<;>try (cases hv; done)
 case mv x=>cases hv; exact h.ev x
 case pick c a b=>
  (repeat' split at hv)<;>first
   | (cases hv; done)
   | (cases hv; rfl)
   | (cases hv; exact (h.under _ _).ev _)
 case build z parts=>
  simp only [Option.map_eq_some_iff] at hv
  obtain ⟨r,hr,rfl⟩:=hv
  exact Gx (St.No.fill h (fun c hc=>by obtain ⟨d,_,rfl⟩:=List.mem_map.1 hc; rfl) hr)
 case load g sz x z=>
  simp only [Option.bind_eq_some_iff] at hv
  obtain ⟨u,hu,hc⟩:=hv
  rw [Au hc]
  exact Gy h hu
 case bin op x y=>
  unfold At at hv
  split at hv
  ·split at hv
   ·simp only [Option.map_eq_some_iff] at hv
    obtain ⟨_,_,rfl⟩:=hv
    rfl
   ·cases hv
  ·cases hv
 case IJ=>
  unfold IK at hv
  split at hv<;>cases hv
  rfl
 case eqs=>
  unfold IL at hv
  split at hv
  ·split at hv
   ·simp only [Option.map_eq_some_iff] at hv
    obtain ⟨_,_,rfl⟩:=hv
    rfl
   ·cases hv
  ·cases hv
 case lh=>
  unfold pM at hv
  split at hv
  ·simp only [Option.map_eq_some_iff] at hv
   obtain ⟨_,_,rfl⟩:=hv
   rfl
  ·cases hv
 case un=>
  unfold aUn at hv
  (repeat' split at hv)<;>first | (cases hv; done) | (cases hv; rfl)
 case conv=>
  unfold yb at hv
  split at hv<;>cases hv
  rfl
 case eH=>
  unfold B7 at hv
  split at hv<;>cases hv<;>rfl
 case du rQ m x i=>
  have hx:=h.ev x
  unfold yc at hv
  split at hv
  ·split at hv<;>cases hv
   rfl
  ·rename_i he _
   rw [he] at hx
   split at hv<;>cases hv
   simpa only [AV.has] using hx
  ·cases hv
 case mU m x lo hi=>
  have hx:=h.ev x
  unfold sk at hv
  split at hv
  ·dsimp only at hv
   split at hv
   ·split at hv
    ·rename_i he
     rw [he] at hx
     cases hv
     simpa only [AV.has] using hx
    ·split at hv<;>cases hv
     rfl
    ·cases hv
   ·cases hv
  ·cases hv
 case aD off x=>
  have hx:=h.ev x
  unfold nu at hv
  split at hv
  ·cases hv; rfl
  ·rename_i he
   rw [he] at hx
   cases hv
   simpa only [AV.has] using hx
  ·cases hv
 case bc sz x i z=>
  simp only [Option.bind_eq_some_iff] at hv
  obtain ⟨u,hu,hc⟩:=hv
  rw [wA hc]
  have hx:=h.ev x
  unfold ig at hu
  split at hu
  ·split at hu
   ·simp only [Option.map_eq_some_iff] at hu
    obtain ⟨_,_,rfl⟩:=hu
    rfl
   ·cases hu
  ·split at hu
   ·simp only [Option.map_eq_some_iff] at hu
    obtain ⟨_,_,rfl⟩:=hu
    rfl
   ·cases hu
  ·rename_i he _
   rw [he] at hx
   split at hu<;>cases hu
   simpa only [AV.has] using hx
  ·rename_i he _
   rw [he] at hx
   split at hu<;>cases hu
   simpa only [AV.has] using hx
  ·cases hu
 case slice sz x lo hi mx=>
  have hx:=h.ev x
  unfold iL at hv
  split at hv
  ·dsimp only at hv
   split at hv
   ·split at hv<;>cases hv
    rfl
   ·split at hv
    ·split at hv
     ·cases hv; rfl
     ·split at hv<;>cases hv
      rfl
    ·cases hv
   ·split at hv
    ·split at hv
     ·cases hv; rfl
     ·split at hv<;>cases hv
      rfl
    ·cases hv
   ·rename_i he
    rw [he] at hx
    split at hv<;>cases hv
    simpa only [AV.has] using hx
   ·cases hv
  ·cases hv
 case ext x i=>
  have hx:=h.ev x
  unfold FB at hv
  split at hv
  ·rename_i he
   rw [he] at hx
   exact cA.1 hx v (List.mem_of_getElem? hv)
  ·simp only [Option.map_eq_some_iff] at hv
   obtain ⟨_,_,rfl⟩:=hv
   rfl
  ·cases hv
 case len=>
  unfold FA at hv
  split at hv<;>cases hv<;>rfl
 case mx xs=>
  have As: ∀c∈xs.map (·.ev st),c.has t=false:=fun c hc=>by
   obtain ⟨x,_,rfl⟩:=List.mem_map.1 hc
   exact h.ev x
  unfold intMax at hv
  split at hv
  ·cases hv
  ·rename_i u l hl
   refine xd (fun a b u hu=> ?_) l (some u) v (fun w hw=>by cases hw; exact As u (by rw [hl]; simp)) hv
   split at hu
   ·split at hu<;>cases hu
    rfl
   ·cases hu
 case mn xs=>
  have As: ∀c∈xs.map (·.ev st),c.has t=false:=fun c hc=>by
   obtain ⟨x,_,rfl⟩:=List.mem_map.1 hc
   exact h.ev x
  unfold intMin at hv
  split at hv
  ·cases hv
  ·rename_i u l hl
   refine xd (fun a b u hu=> ?_) l (some u) v (fun w hw=>by cases hw; exact As u (by rw [hl]; simp)) hv
   split at hu
   ·split at hu<;>cases hu
    rfl
   ·cases hu
 case kd f caps=>
  cases hv
  split
  ·rfl
  ·exact cA.2 fun c hc=>by
    obtain ⟨x,_,rfl⟩:=List.mem_map.1 hc
    exact h.ev x
 case jq=>
  unfold IM at hv
  split at hv
  ·cases hv; rfl
  ·cases hv; rfl
  ·rename_i es _
   cases hb:Nat.beq es.length 0 with
   | true=>rw [hb] at hv; cases hv
   | false=>rw [hb] at hv; cases hv; rfl
  ·cases hv; rfl
  ·cases hv
theorem xe (h:st.No t) {op:bN} {v:AV} (hv:cC call op st=some v) :v.has t=false:=by
 cases op<;>simp only [cC] at hv<;>first
  | exact CT h hv
  | ((repeat' split at hv)<;>first | (cases hv; done) | (cases hv; rfl))
theorem xf (h:st.No t) {i:aN} {v:AV} (hv:fG call i st=some v) :v.has t=false:=by
 unfold fG at hv
 split at hv
 ·simp only [Option.map_eq_some_iff] at hv
  obtain ⟨u,hu,rfl⟩:=hv
  exact mK (xe h hu)
 ·split at hv
  ·rename_i g hg
   have hN:=h.iv hg
   split at hv
   ·split at hv
    ·rename_i u hu
     cases hv
     simp only [AV.has]
     exact xe hN hu
    ·split at hv<;>cases hv
     rfl
   ·split at hv
    ·cases hv
     rfl
    ·simp only [Option.map_eq_some_iff] at hv
     obtain ⟨u,hu,rfl⟩:=hv
     simp only [AV.has]
     exact xe hN hu
  ·cases hv
theorem xg {el sz:Nat} {rows:List (List AV)} (h: ∀e∈rows,∀c∈e,c.has t=false) :(kg el sz rows).has t=false:=by
 unfold kg
 split
 ·rfl
 ·simp only [Ob.has,List.any_eq_false,Bool.not_eq_true]
  exact fun e he=>cA.2 (h e he)
theorem th (h:st.No t) {sz:Nat} : ∀{parts:List (Nat×AX)} {rows r:List (List AV)},(∀e∈rows,∀c∈e,c.has t=false)→dq st sz rows parts=some r→ ∀e∈r,∀c∈e,c.has t=false
 | [],rows,r,hr,he=>by simp only [dq,Option.some.injEq] at he; subst he; exact hr
 | (i,x)::parts,rows,r,hr,he=>by
  simp only [dq] at he
  split at he
  ·refine th h (fun e hm=> ?_) he
   rcases List.mem_or_eq_of_mem_set hm with hm | rfl
   ·exact hr e hm
   ·exact St.No.cells (h.ev x)
  ·cases he
theorem vz (h:st.No t) {sz:Nat} {a x:AV} (ha:a.has t=false) (hx:x.has t=false) {st':St} (hs:fE st sz a x=some st') :st'.No t:=by
 unfold fE at hs
 split at hs
 ·rename_i s bd i off
  have cu:s≠t:=by simpa [AV.has] using ha
  simp only at hs
  split at hs
  ·split at hs
   ·split at hs
    ·split at hs
     ·split at hs
      ·split at hs
       ·cases hs
        exact h.jJ cu rfl
       ·cases hs
        refine h.jJ cu ?_
        simp only [Ob.has,List.any_eq_false,Bool.not_eq_true]
        intro e he
        refine cA.2 ?_
        rcases List.mem_or_eq_of_mem_set he with he | rfl
        ·obtain ⟨e0,_,rfl⟩:=List.mem_map.1 he
         intro c hc
         obtain ⟨d,_,rfl⟩:=List.mem_map.1 hc
         rfl
        ·exact qi (fun c hc=>by obtain ⟨d,_,rfl⟩:=List.mem_map.1 hc; rfl) (St.No.cells hx)
      ·cases hs
     ·cases hs
    ·cases hs
   ·rename_i el cO es aZ
    split at hs
    ·split at hs
     ·rename_i e0 uB
      split at hs
      ·cases hs
       have ho:=h.aT _ _ aZ
       simp only [Ob.has,List.any_eq_false,Bool.not_eq_true] at ho
       refine h.jJ cu ?_
       simp only [Ob.has,List.any_eq_false,Bool.not_eq_true]
       intro e he
       refine cA.2 ?_
       rcases List.mem_or_eq_of_mem_set he with he | rfl
       ·exact cA.1 (ho e he)
       ·exact qi (cA.1 (ho e0 (List.mem_of_getElem? uB))) (St.No.cells hx)
      ·cases hs
     ·cases hs
    ·cases hs
   ·cases hs
  ·cases hs
 ·cases hs
theorem qj {d:Nat} (ht:t < 50000) : ∀(l:aw) (j:Nat) (s:St),1≤j→s.No t→(bV d j l s).2.No t∧ ∀c∈(bV d j l s).1,c.has t=false
 | [],j,s,_,h=>⟨h,by simp [bV]⟩
 | x::l,j,s,hj,h=>by
  have other: ∀y:DV,(bV d (j+1) l s).2.No t∧ ∀c∈AV.d y::(bV d (j+1) l s).1,c.has t=false:=fun y=>by
   obtain ⟨h1,h2⟩:=qj (d:=d) ht l (j+1) s (by omega) h
   refine ⟨h1,fun c hc=> ?_⟩
   rcases List.mem_cons.1 hc with rfl | hc
   ·rfl
   ·exact h2 c hc
  cases x with
  | sl q sz es=>
   cases q with
   | own el=>
    have cu:d+100000 * j≠t:=by omega
    obtain ⟨h1,h2⟩:=qj (d:=d) ht l (j+1) _ (by omega) (h.at_ (s:=d+100000 * j) (o:= .aC el sz es) cu rfl)
    refine ⟨h1,fun c hc=> ?_⟩
    simp only [bV] at hc
    rcases List.mem_cons.1 hc with rfl | hc
    ·simpa [AV.has] using cu
    ·exact h2 c hc
   | _=>exact other _
  | _=>exact other _
theorem vB {d:Nat} (ht:t < 50000) : ∀(es:aj) (j:Nat) (s:St),1≤j→s.No t→(cN d j es s).2.No t∧ ∀e∈(cN d j es s).1,∀c∈e,c.has t=false
 | [],j,s,_,h=>⟨h,by simp [cN]⟩
 | x::es,j,s,hj,h=>by
  obtain ⟨h1,h2⟩:=qj (d:=d) ht x j s hj h
  obtain ⟨h3,h4⟩:=vB (d:=d) ht es (j+x.length) _ (by omega) h1
  refine ⟨h3,fun e he=> ?_⟩
  rcases List.mem_cons.1 (show e∈(bV d j x s).1::(cN d (j+x.length) es (bV d j x s).2).1 from he) with rfl | he
  ·exact h2
  ·exact h4 e he
theorem iJ {d:Nat} (ht:t < 50000) : ∀(l:aw) (j:Nat) (s:St),1≤j→s.No t→(bX d j l s).2.No t∧ ∀c∈(bX d j l s).1,c.has t=false
 | [],j,s,_,h=>⟨h,by simp [bX]⟩
 | x::l,j,s,hj,h=>by
  have other: ∀y:DV,(bX d (j+1) l s).2.No t∧ ∀c∈AV.d y::(bX d (j+1) l s).1,c.has t=false:=fun y=>by
   obtain ⟨h1,h2⟩:=iJ (d:=d) ht l (j+1) s (by omega) h
   refine ⟨h1,fun c hc=> ?_⟩
   rcases List.mem_cons.1 hc with rfl | hc
   ·rfl
   ·exact h2 c hc
  cases x with
  | sl q sz es=>
   cases q with
   | own el=>
    have cu:d+100000 * j≠t:=by omega
    obtain ⟨h1,h2⟩:=iJ (d:=d) ht l (j+1) _ (by omega) (h.at_ (s:=d+100000 * j) (o:= .aC el sz es) cu rfl)
    refine ⟨h1,fun c hc=> ?_⟩
    simp only [bX] at hc
    rcases List.mem_cons.1 hc with rfl | hc
    ·simpa [AV.has] using cu
    ·exact h2 c hc
   | cT el=>
    have cu:d+100000 * j≠t:=by omega
    obtain ⟨h3,h4⟩:=vB (d:=d) ht es (j+1) s (by omega) h
    have gQ:(Ob.mix el sz (cN d (j+1) es s).1).has t=false:=by
     simp only [Ob.has,List.any_eq_false,Bool.not_eq_true]
     exact fun e he=>cA.2 (h4 e he)
    obtain ⟨h1,h2⟩:=iJ (d:=d) ht l (j+1+gK es) _ (by omega) (h3.at_ (s:=d+100000 * j) (o:= .mix el sz (cN d (j+1) es s).1) cu gQ)
    refine ⟨h1,fun c hc=> ?_⟩
    simp only [bX] at hc
    rcases List.mem_cons.1 hc with rfl | hc
    ·simpa [AV.has] using cu
    ·exact h2 c hc
   | _=>exact other _
  | _=>exact other _
theorem ti {d:Nat} (ht:t < 50000) (hd:d≠t) {r:DV} {s:St} (h:s.No t) :(place d r s).No t:=by
 have other:(s.put d (.d r)).No t:=h.put rfl
 unfold place
 split
 ·exact (h.at_ hd rfl).put (by simpa [AV.has] using hd)
 ·rename_i el sz es
  obtain ⟨h1,h2⟩:=iJ (d:=d) ht [.sl (.cT el) sz es] 1 s (by omega) h
  refine h1.put ?_
  generalize (bX d 1 [DV.sl (.cT el) sz es] s).1=l at *
  cases l with
  | nil=>rfl
  | cons c l=>exact h2 c (by simp)
 ·split
  ·obtain ⟨h1,h2⟩:=iJ (d:=d) ht _ 1 s (by omega) h
   exact h1.put (cA.2 h2)
  ·exact h.put rfl
 ·split
  ·obtain ⟨h1,h2⟩:=iJ (d:=d) ht _ 1 s (by omega) h
   exact h1.put (cA.2 h2)
  ·exact h.put rfl
 ·exact other
theorem Gz {s d:Nat} (ht:t < 50000) (hd:d≠t) :alt s d≠t:=by
 unfold alt
 cases Nat.beq s d
 ·exact hd
 ·simp only [cond_true]
  omega
theorem Ew (h:st.No t) (ht:t < 50000) {d el sz b:Nat} (hd:d≠t) {x y:AV} (hx:x.has t=false) {st':St} (hs:eK st d el sz b x y=some st') :st'.No t:=by
 have ie:(AV.ah d sz 0 0).has t=false:=by simpa [AV.has] using hd
 unfold eK at hs
 (repeat' split at hs)<;>first
  | (cases hs; done)
  | (cases hs; exact h.put hx)
  | (cases hs; exact (h.at_ hd rfl).put ie)
  | (cases hs; exact ((h.drop _).at_ (Gz ht hd) rfl).put (by simpa [AV.has] using Gz ht hd))
theorem Ey (z:aw) {rows:List (List AV)} (h: ∀e∈rows,∀c∈e,c.has t=false) : ∀e∈gw z rows,∀c∈e,c.has t=false:=by
 unfold gw
 cases z.any DV.isNil with
 | false=>exact h
 | true=>
  intro e he c hc
  obtain ⟨e0,uB,rfl⟩:=List.mem_map.1 he
  obtain ⟨c0,qU,rfl⟩:=List.mem_map.1 hc
  rw [yN]
  exact h e0 uB c0 qU
theorem GA (h:st.No t) (ht:t < 50000) {dst:Option Nat} {op:bN} (hh:op.wC=false) (hd:dst≠some t) {st':St} (hs:cJ call dst op st=some st') :st'.No t:=by
 have val: ∀d,dst=some d→(bw st op).map (fun v=>st.put d v.strip)=some st'→st'.No t:=fun d _ hv=>by
  simp only [Option.map_eq_some_iff] at hv
  obtain ⟨v,hv,rfl⟩:=hv
  exact h.put (mK (CT h hv))
 cases dst with
 | none=>
  cases op<;>simp only [cJ,aK] at hs<;>first
   | (simp only [bN.wC,reduceCtorEq] at hh; done)
   | (cases hs; done)
   | exact vz h (h.ev _) (h.ev _) hs
 | some d=>
  have ie:d≠t:=fun e=>hd (by rw [e])
  cases op<;>simp only [cJ,aK] at hs<;>try (first | (simp only [bN.wC,reduceCtorEq] at hh; done) | (cases hs; done) | exact val d rfl hs)
  case box el sz x=>
   split at hs<;>cases hs
   refine (h.at_ ie (xg fun e he c hc=> ?_)).put (by simpa [AV.has] using ie)
   simp only [List.mem_singleton] at he
   subst he
   exact St.No.cells (h.ev x) c hc
  case alloc el sz z=>
   split at hs<;>cases hs
   exact (h.at_ ie rfl).put (by simpa [AV.has] using ie)
  case aF el sz len z parts=>
   split at hs
   ·split at hs
    ·rename_i rows hr
     split at hs<;>cases hs
     refine (h.at_ ie (xg (Ey z (th h (fun e he c hc=> ?_) hr)))).put (by simpa [AV.has] using ie)
     rw [List.mem_replicate] at he
     obtain ⟨_,rfl⟩:=he
     obtain ⟨d,_,rfl⟩:=List.mem_map.1 hc
     rfl
    ·cases hs
   ·cases hs
  case b7 el sz bytes z l c=>
   split at hs
   ·split at hs<;>cases hs
    exact (h.at_ ie rfl).put (by simpa [AV.has] using ie)
   ·cases hs
  case append el sz bytes x y=>exact Ew h ht ie (h.ev x) hs
  case call f args=>
   split at hs
   ·simp only [Option.bind_eq_some_iff] at hs
    obtain ⟨r,_,hr⟩:=hs
    split at hr<;>cases hr
    exact ti ht ie h
   ·cases hs
  case eO f x args=>
   split at hs
   ·split at hs
    ·split at hs
     ·split at hs
      ·simp only [Option.map_eq_some_iff] at hs
       obtain ⟨r,_,rfl⟩:=hs
       exact ti ht ie (h.gE _)
      ·cases hs
     ·cases hs
    ·cases hs
   ·split at hs
    ·simp only [Option.bind_eq_some_iff] at hs
     obtain ⟨r,_,hr⟩:=hs
     split at hr<;>cases hr
     exact ti ht ie h
    ·cases hs
   ·cases hs
theorem GB (h:st.No t) (ht:t < 50000) {i:aN} (hh:i.op.wC=false) (hd:i.dst≠some t) {st':St} (hs:bD call i st=some st') :st'.No t:=by
 unfold bD at hs
 split at hs
 ·exact GA h ht hh hd hs
 ·split at hs
  ·split at hs
   ·exact vz h (h.ev _) (h.ev _) hs
   ·cases hs
  ·obtain ⟨d,v,_,hv,rfl⟩:=et hs
   exact h.put (xf h hv)
end
theorem Jj {x y:aN} (ha:gN x y=true) {s s1 s2:St} (hx:fU call x s=some s1) (hy:fU call y s1=some s2) :
  ∃j0,fU call y s=some j0∧fU call x j0=some s2:=by
 obtain ⟨h1,h2⟩:=apart_spec ha
 obtain ⟨d,v,hd,hv,rfl⟩:=et hx
 obtain ⟨e,u,he,hu,rfl⟩:=et hy
 have ie:=h1 d hd
 have bF:=h2 e he
 rw [jZ (er ie.1) (.inr rfl)] at hu
 refine ⟨s.put e u,by simp only [fU,he,hu,Option.map_some],?_⟩
 have uK:fG call x (s.put e u)=some v:=by rw [jZ (er bF) (.inr rfl),hv]
 simp only [fU,hd,uK,Option.map_some]
 rw [kO (fun h=>ie.2 (by rw [he,h])) (mJ hv bF) (mJ hu ie.1)]
theorem Jk {x y:aN} (ha:gN x y=true) (hp:x.cls= .p) (hs:y.cls= .s) {s s1 s2:St} (hx:bD call x s=some s1) (hy:bD call y s1=some s2) :
  ∃j0,bD call y s=some j0∧bD call x j0=some s2:=by
 obtain ⟨h1,h2⟩:=apart_spec ha
 rw [dE (.inl hp)] at hx
 obtain ⟨d,v,hd,hv,rfl⟩:=et hx
 obtain ⟨sz,a,b,cU,hg,cz,Fv,gn⟩:=xc hs hy
 have ie:=h1 d hd
 have RJ:a.ev (s.put d v)=a.ev s:=(er (rs:=y.reads) ie.1).ev fun n hn=>by simp [aN.reads,cU,bN.reads,hn]
 have RK:b.ev (s.put d v)=b.ev s:=(er (rs:=y.reads) ie.1).ev fun n hn=>by simp [aN.reads,cU,bN.reads,hn]
 rw [RJ,RK] at gn
 obtain ⟨g1,g2⟩:=gT s.env _ _ _ gn
 refine ⟨⟨s.env,s2.aT⟩,?_,?_⟩
 ·simp only [bD,Fv,Bool.false_eq_true,if_false,cU,hg,cz]
  exact g2
 ·rw [dE (.inl hp)]
  have uK:fG call x ⟨s.env,s2.aT⟩=some v:=(jZ (y0 (st:=s) (st2:=⟨s.env,s2.aT⟩) rfl) (.inl ((tg (.inl hp)).2.trans hp))).trans hv
  simp only [fU,hd,uK,Option.map_some]
  obtain ⟨e2,g⟩:=s2
  simp only at g1
  subst g1
  rfl
theorem Jl {x y:aN} (ha:gN x y=true) (hs:x.cls= .s) (hp:y.cls= .p) {s s1 s2:St} (hx:bD call x s=some s1) (hy:bD call y s1=some s2) :
  ∃j0,bD call y s=some j0∧bD call x j0=some s2:=by
 obtain ⟨h1,h2⟩:=apart_spec ha
 obtain ⟨sz,a,b,cU,hg,cz,Fv,gn⟩:=xc hs hx
 rw [dE (.inl hp)] at hy
 obtain ⟨d,v,hd,hv,rfl⟩:=et hy
 have ie:=h2 d hd
 have qk:=(gT s.env _ _ _ gn).1
 have CS:fG call y s=some v:=(jZ (y0 (st:=s) qk) (.inl ((tg (.inl hp)).2.trans hp))).symm.trans hv
 refine ⟨s.put d v,by rw [dE (.inl hp)]; simp only [fU,hd,CS,Option.map_some],?_⟩
 have RJ:a.ev (s.put d v)=a.ev s:=(er (rs:=x.reads) ie).ev fun n hn=>by simp [aN.reads,cU,bN.reads,hn]
 have RK:b.ev (s.put d v)=b.ev s:=(er (rs:=x.reads) ie).ev fun n hn=>by simp [aN.reads,cU,bN.reads,hn]
 simp only [bD,Fv,Bool.false_eq_true,if_false,cU,hg,cz,RJ,RK]
 have :=(gT (s.put d v).env _ _ _ gn).2
 rw [show (⟨(s.put d v).env,s.aT⟩ :St)=s.put d v from rfl] at this
 rw [this]
 simp only [St.put,qk]
theorem GC {x y:aN} {p:Nat×Nat} (hd:MH x y=some p) {s s1 s2:St} (fD:iN s p=true) (hx:bD call x s=some s1) (hy:bD call y s1=some s2) :
  ∃j0,bD call y s=some j0∧bD call x j0=some s2:=by
 unfold MH at hd
 split at hd
 ·rename_i g sz n szs m c hxg x7 hyg uD
  split at hd
  ·rename_i ha
   cases hd
   simp only [Bool.and_eq_true] at ha
   obtain ⟨ha,hxt,hyt⟩:=ha
   obtain ⟨h1,h2⟩:=apart_spec ha
   have Fu:x.e=false:=by simp [aN.e,hxt]
   have ab6:y.e=false:=by simp [aN.e,hyt]
   have Fw:x.cls= .r:=by simp only [aN.cls,Fu,cond_false,x7]; rfl
   rw [dE (.inr Fw)] at hx
   obtain ⟨d,v,cz,hv,rfl⟩:=et hx
   obtain ⟨bd,a,b,cU,_,hyd,Fv,gn⟩:=xc (by simp only [aN.cls,ab6,cond_false,uD]; rfl) hy
   rw [uD] at cU
   cases cU
   have ie:=h1 d cz
   have RJ:(AX.t m).ev (s.put d v)=(AX.t m).ev s:=(er (rs:=y.reads) ie.1).ev fun n hn=>by simp only [aN.reads,uD,bN.reads,List.mem_append]; exact .inr (.inr (.inl hn))
   have RK:c.ev (s.put d v)=c.ev s:=(er (rs:=y.reads) ie.1).ev fun n hn=>by simp [aN.reads,uD,bN.reads,hn]
   rw [RJ,RK] at gn
   obtain ⟨g1,g2⟩:=gT s.env _ _ _ gn
   refine ⟨⟨s.env,s2.aT⟩,?_,?_⟩
   ·simp only [bD,Fv,Bool.false_eq_true,if_false,uD,hyg,hyd]
    exact g2
   ·rw [dE (.inr Fw)]
    have uK:fG call x ⟨s.env,s2.aT⟩=fG call x s:=by
     simp only [fG,hxg,x7,cC,bw,AX.ev]
     congr 2
     unfold iN at fD
     split at fD
     ·split at fD
      ·rename_i h3
       rw [h3]
       exact kN _ _ _
      ·cases fD
     split at fD
     ·rename_i h3 _
      rw [h3]
      exact kN _ _ _
     ·rename_i s0 _ _ _ s' _ _ _ h3 h4
      rw [h3]
      have cu:s0≠s':=by simpa using fD
      simp only [AX.ev,h4,AV.strip] at gn
      have :=Eu gn cu
      simp only [AV.strip,dJ,this]
      rfl
     ·rename_i h4
      simp [AX.ev,h4,AV.strip,fE] at gn
     ·rename_i h4
      simp [AX.ev,h4,AV.strip,fE] at gn
     ·rename_i h3 _
      rw [h3]
      exact kN _ _ _
     ·rename_i h3 _
      rw [h3]
      exact kN _ _ _
     ·cases fD
    rw [hv] at uK
    simp only [fU,cz,uK,Option.map_some]
    obtain ⟨e2,g⟩:=s2
    simp only at g1
    subst g1
    rfl
  ·cases hd
 ·cases hd
theorem nQ {d e:Nat} {o:Ob} {v p:AV} (h:st.No d) (hv:v.has d=false) (cu:e≠d) (Ez:v.cH d=v) (QM:p.cH e=p) :((st.put e v).at_ d o).put d p=((st.at_ d o).put d p).put e v:=by
 have h1:(st.put e v).at_ d o=(st.at_ d o).put e v:=by
  rw [h.at_eq,(h.put hv).at_eq]
  rfl
 rw [h1,kO cu Ez QM]
theorem y7 {op:bN} (cU:op.free=true) {d e:Nat} {v:AV} (h:st.No d) (hv:v.has d=false) (Ez:v.cH d=v) (he:e ∉ op.reads) (cu:e≠d) :
  aK call (some d) op (st.put e v)=(aK call (some d) op st).map (·.put e v):=by
 have hs:gj op.reads st (st.put e v):=er he
 cases op<;>simp only [bN.free,Bool.false_eq_true] at cU
 case box el sz x=>
  have hx:x.ev (st.put e v)=x.ev st:=hs.ev fun n hn=>by simpa [bN.reads] using hn
  simp only [aK,hx]
  split
  ·rw [Option.map_some,nQ h hv cu Ez rfl]
  ·rfl
 case alloc el sz z=>
  simp only [aK]
  split
  ·rw [Option.map_some,nQ h hv cu Ez rfl]
  ·rfl
 case append el sz b x y=>
  have hx:x.ev (st.put e v)=x.ev st:=hs.ev fun n hn=>by simp [bN.reads,hn]
  have hy:y.ev (st.put e v)=y.ev st:=hs.ev fun n hn=>by simp [bN.reads,hn]
  have RL:=h.ev x
  simp only [aK,hx,hy,eK]
  rw [show elems (st.put e v) sz (y.ev st)=elems st sz (y.ev st) from rfl]
  cases elems st sz (y.ev st) with
  | none=>rfl
  | some news=>
   simp only
   split
   ·split
    ·rename_i hz; rw [Option.map_some,kO cu Ez (by rw [hz]; rfl)]
    ·rename_i hz; rw [Option.map_some,kO cu Ez (by rw [hz]; rfl)]
    ·rename_i hz; rw [Option.map_some,kO cu Ez (by rw [hz]; rfl)]
    ·rename_i hz; rw [Option.map_some,kO cu Ez (by rw [hz]; rfl)]
    ·rfl
   ·split
    ·split
     ·split
      ·rw [Option.map_some,nQ h hv cu Ez rfl]
      ·rfl
     ·split
      ·rw [Option.map_some,nQ h hv cu Ez rfl]
      ·rfl
     ·split
      ·rw [Option.map_some,nQ h hv cu Ez rfl]
      ·rfl
     ·rename_i s bd off len hz
      rw [hz] at RL
      have RM:s≠d:=by simpa [AV.has] using RL
      have halt:alt s d=d:=by
       unfold alt
       rw [show Nat.beq s d=false from by cases hb:Nat.beq s d with | false=>rfl | true=>exact absurd (Nat.eq_of_beq_eq_true hb) RM]
       rfl
      rw [halt,show (st.put e v).aT s=st.aT s from rfl]
      split
      ·split
       ·rw [Option.map_some,show (st.put e v).drop s=(st.drop s).put e v from rfl,nQ (h.drop s) hv cu Ez rfl]
       ·rfl
      ·rfl
     ·rfl
    ·rfl
 case b7 el sz b z l c=>
  have hl:l.ev (st.put e v)=l.ev st:=hs.ev fun n hn=>by simp [bN.reads,hn]
  have hc:c.ev (st.put e v)=c.ev st:=hs.ev fun n hn=>by simp [bN.reads,hn]
  simp only [aK,hl,hc]
  split
  ·split
   ·rw [Option.map_some,nQ h hv cu Ez rfl]
   ·rfl
  ·rfl
theorem za {op:bN} (cU:op.free=true) {d:Nat} (h:st.No d) {st':St} (hs:aK call (some d) op st=some st') :(∃v,st'.env=(st.put d v).env)∧(op.isApp=false→ ∀n,n≠d→st'.aT n=st.aT n):=by
 have lf: ∀o v,((st.at_ d o).put d v).env=(st.put d v).env∧ ∀n,n≠d→((st.at_ d o).put d v).aT n=st.aT n:=fun o v=>by
  rw [h.at_eq]
  exact ⟨rfl,fun n hn=>by simp [St.put,hn]⟩
 cases op<;>simp only [bN.free,Bool.false_eq_true] at cU
 case box=>
  simp only [aK] at hs
  split at hs<;>cases hs
  exact ⟨⟨_,(lf _ _).1⟩,fun _=>(lf _ _).2⟩
 case alloc=>
  simp only [aK] at hs
  split at hs<;>cases hs
  exact ⟨⟨_,(lf _ _).1⟩,fun _=>(lf _ _).2⟩
 case b7=>
  simp only [aK] at hs
  split at hs
  ·split at hs<;>cases hs
   exact ⟨⟨_,(lf _ _).1⟩,fun _=>(lf _ _).2⟩
  ·cases hs
 case append el sz b x y=>
  refine ⟨?_,fun he=>by simp [bN.isApp] at he⟩
  have RL:=h.ev x
  simp only [aK,eK] at hs
  (repeat' split at hs)<;>first
   | (cases hs; done)
   | (cases hs; exact ⟨_,rfl⟩)
   | (cases hs; exact ⟨_,(lf _ _).1⟩)
   | skip
  rename_i s bd off len hz _ DW cO es aZ _
  cases hs
  rw [hz] at RL
  have RM:s≠d:=by simpa [AV.has] using RL
  have halt:alt s d=d:=by
   unfold alt
   rw [show Nat.beq s d=false from by cases hb:Nat.beq s d with | false=>rfl | true=>exact absurd (Nat.eq_of_beq_eq_true hb) RM]
   rfl
  rw [halt,(h.drop s).at_eq]
  exact ⟨_,rfl⟩
theorem EA {d:Nat} (h: ∀n,n≠d→st2.aT n=st.aT n) {v:AV} (hv:v.has d=false) (g:Bool) (sz:Nat) :dJ st2 g sz v=dJ st g sz v:=by
 cases v with
 | ptr s bd i off=>
  have hs:s≠d:=by simpa [AV.has] using hv
  simp only [dJ,h s hs]
 | d x=>exact kN _ _ _
 | _=>rfl
theorem iE {d:Nat} (hN:st.No d) (h: ∀n,n≠d→st2.aT n=st.aT n) : ∀(n:Nat) (v:AV),v.has d=false→bp st2 n v=bp st n v
 | 0,v,_=>by cases v<;>rfl
 | n+1,v,hv=>by
  have hl: ∀l:List AV,(∀c∈l,c.has d=false)→l.mapM (bp st2 n)=l.mapM (bp st n):=by
   intro l
   induction l with
   | nil=>intro _; rfl
   | cons c l ih=>
    intro hc
    rw [List.mapM_cons,List.mapM_cons,iE hN h n c (hc c (by simp)),ih fun c' gF=>hc c' (by simp [gF])]
  have hl2: ∀l:List AV,(∀c∈l,c.has d=false)→l.mapM (fun c=>(bp st2 n c).map cellS)=l.mapM (fun c=>(bp st n c).map cellS):=by
   intro l
   induction l with
   | nil=>intro _; rfl
   | cons c l ih=>
    intro hc
    rw [List.mapM_cons,List.mapM_cons,iE hN h n c (hc c (by simp)),ih fun c' gF=>hc c' (by simp [gF])]
  have gA: ∀es:List (List AV),(∀e∈es,∀c∈e,c.has d=false)→es.mapM (fun e=>List.mapM (fun c=>(bp st2 n c).map cellS) e)=es.mapM (fun e=>List.mapM (fun c=>(bp st n c).map cellS) e):=by
   intro es
   induction es with
   | nil=>intro _; rfl
   | cons e es ih=>
    intro hc
    rw [List.mapM_cons,List.mapM_cons,hl2 e (hc e (by simp)),ih fun e' bF=>hc e' (by simp [bF])]
  have Gh: ∀s el sz es,st.aT s=some (.mix el sz es)→ ∀e∈es,∀c∈e,c.has d=false:=fun s el sz es hs e he c hc=>by
   have :=hN.aT s _ hs
   simp only [Ob.has,List.any_eq_false,Bool.not_eq_true] at this
   exact cA.1 (this e he) c hc
  cases v with
  | d x=>rfl
  | undef=>rfl
  | w=>rfl
  | func f cs=>simp only [bp]; rw [hl cs (cA.1 (by simpa only [AV.has] using hv))]
  | agg cs=>simp only [bp]; rw [hl cs (cA.1 (by simpa only [AV.has] using hv))]
  | tuple cs=>simp only [bp]; rw [hl cs (cA.1 (by simpa only [AV.has] using hv))]
  | ah s sz off len=>
   have hs:s≠d:=by simpa [AV.has] using hv
   simp only [bp,h s hs]
   cases aZ:st.aT s with
   | none=>rfl
   | some o=>
    cases o with
    | aC=>rfl
    | mix el bd es=>
     simp only
     split
     ·rw [gA _ fun e he c hc=>Gh s el bd es aZ e (List.mem_of_mem_drop (List.mem_of_mem_take he)) c hc]
     ·rfl
  | ptr s sz i off=>
   have hs:s≠d:=by simpa [AV.has] using hv
   simp only [bp,h s hs]
   cases aZ:st.aT s with
   | none=>rfl
   | some o=>
    cases o with
    | aC=>rfl
    | mix el bd es=>
     simp only
     split
     ·cases he:es[i]? with
      | none=>rfl
      | some e=>
       simp only [Option.bind_some]
       rw [hl2 e fun c hc=>Gh s el bd es aZ e (List.mem_of_getElem? he) c hc]
     ·rfl
  | mA s sz i off m=>
   have hs:s≠d:=by simpa [AV.has] using hv
   simp only [bp,h s hs]
theorem tj {d:Nat} (hN:st.No d) (h: ∀n,n≠d→st2.aT n=st.aT n) : ∀l:List AV,(∀c∈l,c.has d=false)→bm (snap st2) l=bm (snap st) l
 | [],_=>rfl
 | c::l,hc=>by
  simp only [bm]
  rw [show snap st2 c=snap st c from iE hN h 6 c (hc c (by simp)),tj hN h l fun c' gF=>hc c' (by simp [gF])]
theorem GD {i:aN} {d:Nat} (hS:gj i.reads st st2) (h:st.No d) (aZ: ∀n,n≠d→st2.aT n=st.aT n) (cU:i.op.Ay=true) :fG call i st2=fG call i st:=by
 have key: ∀{a b:St},gj i.reads a b→a.No d→(∀n,n≠d→b.aT n=a.aT n)→cC call i.op b=cC call i.op a:=by
  intro a b hs hn hg
  cases hi:i.op<;>simp only [hi,bN.Ay,Bool.false_eq_true] at cU
  ·rename_i g sz x z
   have hx:x.ev b=x.ev a:=hs.ev fun n hn=>by simp [aN.reads,hi,bN.reads,hn]
   simp only [cC,bw,hx,EA hg (hn.ev x)]
  ·rename_i f args
   have hx:args.map (·.ev b)=args.map (·.ev a):=hs.Gv fun n hn=>by simp [aN.reads,hi,bN.reads,hn]
   have gQ: ∀c∈args.map (·.ev a),c.has d=false:=fun c hc=>by
    obtain ⟨x,_,rfl⟩:=List.mem_map.1 hc
    exact hn.ev x
   simp only [cC,hx,tj hn hg _ gQ]
  ·rename_i f args
   have hx:args.map (·.ev b)=args.map (·.ev a):=hs.Gv fun n hn=>by simp only [aN.reads,hi,bN.reads,List.mem_append]; exact .inr (.inr (.inr hn))
   have Nf:f.ev b=f.ev a:=hs.ev fun n hn=>by simp [aN.reads,hi,bN.reads,hn]
   have gQ: ∀c∈args.map (·.ev a),c.has d=false:=fun c hc=>by
    obtain ⟨x,_,rfl⟩:=List.mem_map.1 hc
    exact hn.ev x
   have hsf:snap b (f.ev a)=snap a (f.ev a):=iE hn hg 6 _ (hn.ev f)
   simp only [cC,hx,Nf,hsf,tj hn hg _ gQ]
 unfold fG
 cases hg:i.g with
 | none=>
  simp only
  rw [key hS h aZ]
 | some tw=>
  obtain ⟨t,want⟩:=tw
  have ht:t∈i.reads:=by simp [aN.reads,hg]
  have hu: ∀p∈i.up,p.1∈i.reads:=fun p hp=>by simp only [aN.reads,List.mem_append,List.mem_map]; exact .inr (.inl ⟨p,hp,rfl⟩)
  simp only
  rw [qg hS i.up t want ht hu]
  rcases qf hS i.up t want ht hu with ⟨e1,e2⟩ | ⟨g,g2,e1,e2,e3,e4,e5⟩
  ·rw [e1,e2]
  ·rw [e1,e2]
   simp only
   rw [key e3 (h.iv e1) fun n hn=>by rw [e4,e5]; exact aZ n hn]
theorem ma {x:aN} (hf:x.f=true) (cU:x.op.free=true) :bD call x st=aK call x.dst x.op st:=by
 have he:x.e=true:=by
  simp only [aN.f,Bool.and_eq_true] at hf
  exact hf.1
 unfold bD
 rw [if_pos he]
 cases hx:x.op<;>simp only [hx,bN.free,Bool.false_eq_true] at cU<;>rfl
theorem zb {x y:aN} (hf:uY x y=true) {d:Nat} (hd:x.dst=some d) (hn:d ∉ y.reads) (h:st.No d) {st':St} (hs:aK call (some d) x.op st=some st') :(y.cls= .p∨y.cls= .r)∧fG call y st'=fG call y st:=by
 simp only [uY,Bool.and_eq_true] at hf
 obtain ⟨⟨IA,cU⟩,hy⟩:=hf
 obtain ⟨⟨v,qk⟩,aZ⟩:=za cU h hs
 have hS:gj y.reads st st':=fun n El=>by
  have :=er (st:=st) (rs:=y.reads) (v:=v) hn n El
  rwa [← qk] at this
 cases hc:y.cls with
 | p=>exact ⟨.inl rfl,jZ hS (.inl ((tg (.inl hc)).2.trans hc))⟩
 | r=>
  simp only [hc,Bool.and_eq_true,Bool.not_eq_true'] at hy
  exact ⟨.inr rfl,GD hS h (aZ hy.2) hy.1⟩
 | s=>simp [hc] at hy
 | x=>simp [hc] at hy
theorem Jm {x y:aN} (ha:gN x y=true) (IA:x.f=true) (cU:x.op.free=true) {s s1 s2:St} (hN: ∀d,x.dst=some d→s.No d) (Jb:y.cls= .p∨y.cls= .r)
  (dI: ∀d s',x.dst=some d→aK call (some d) x.op s=some s'→fG call y s'=fG call y s) (hx:bD call x s=some s1) (hy:bD call y s1=some s2) : ∃j0,bD call y s=some j0∧bD call x j0=some s2:=by
 obtain ⟨h1,h2⟩:=apart_spec ha
 rw [ma IA cU] at hx
 rw [dE Jb] at hy
 obtain ⟨e,v,he,hv,rfl⟩:=et hy
 cases hd:x.dst with
 | none=>rw [hd] at hx; cases x7:x.op<;>simp only [x7,bN.free,Bool.false_eq_true] at cU<;>simp [x7,aK] at hx
 | some d=>
  rw [hd] at hx
  have IB:=hN d hd
  have CS:=(dI d s1 hd hx).symm.trans hv
  have hxr:e ∉ x.op.reads:=fun hm=>h2 e he (by simp [aN.reads,hm])
  have cu:e≠d:=fun h=>(h1 d hd).2 (by rw [he,h])
  refine ⟨s.put e v,by rw [dE Jb]; simp only [fU,he,CS,Option.map_some],?_⟩
  rw [ma IA cU,hd,y7 cU IB (xf IB CS) (mJ CS (h1 d hd).1) hxr cu,hx]
  rfl
theorem CU {x y:aN} (ha:gN x y=true) (GF:y.f=true) (cU:y.op.free=true) {s s1 s2:St} (hN: ∀d,y.dst=some d→s.No d) (Fw:x.cls= .p∨x.cls= .r)
  (dI: ∀d s',y.dst=some d→aK call (some d) y.op s=some s'→fG call x s'=fG call x s) (hx:bD call x s=some s1) (hy:bD call y s1=some s2) : ∃j0,bD call y s=some j0∧bD call x j0=some s2:=by
 obtain ⟨h1,h2⟩:=apart_spec ha
 rw [ma GF cU] at hy
 rw [dE Fw] at hx
 obtain ⟨e,v,he,hv,rfl⟩:=et hx
 cases hd:y.dst with
 | none=>rw [hd] at hy; cases uD:y.op<;>simp only [uD,bN.free,Bool.false_eq_true] at cU<;>simp [uD,aK] at hy
 | some d=>
  rw [hd] at hy
  have IB:=hN d hd
  have hyr:e ∉ y.op.reads:=fun hm=>(h1 e he).1 (by simp [aN.reads,hm])
  have cu:e≠d:=fun h=>(h1 e he).2 (by rw [hd,h])
  have hdx:d ∉ x.reads:=h2 d hd
  rw [y7 cU IB (xf IB hv) (mJ hv hdx) hyr cu] at hy
  simp only [Option.map_eq_some_iff] at hy
  obtain ⟨s',dp,rfl⟩:=hy
  refine ⟨s',by rw [ma GF cU,hd]; exact dp,?_⟩
  rw [dE Fw]
  simp only [fU,he,(dI d s' hd dp).trans hv,Option.map_some]
def IC (d:Nat) (op:bN) (st:St) :Option (Ob×AV):=
 match op with
 | .box el sz x=>
  let cs:=(x.ev st).cells
  if cs.length=sz∧cs.all AV.one∧eJ d cs=false then some (kg el sz [cs],.ptr d sz 0 0) else none
 | .alloc el sz z=>if z.length=sz∧z.all DV.one then some (.aC el sz [z],.ptr d sz 0 0) else none
 | .b7 el sz bytes z l c=>
  match l.ev st,c.ev st with
  | .d (.int _ m),.d (.int _ n)=>
   if 0≤m∧m≤n∧n.toNat * bytes≤room∧n.toNat≤room∧z.length=sz∧z.all DV.one then some (.aC el sz (List.replicate m.toNat z),.ah d sz 0 m.toNat) else none
  | _,_=>none
 | _=>none
theorem pa {op:bN} (cU:op.free=true) (hna:op.isApp=false) (d:Nat) (st:St) :aK call (some d) op st=(IC d op st).map fun p=>(st.at_ d p.1).put d p.2:=by
 cases op<;>simp only [bN.free,bN.isApp,Bool.false_eq_true,Bool.true_eq_false] at cU hna
 ·simp only [aK,IC]
  split<;>rfl
 ·simp only [aK,IC]
  split<;>rfl
 ·rename_i el sz bytes z l c
  simp only [aK,IC]
  generalize l.ev st=lv
  generalize c.ev st=cv
  cases lv with
  | d lv=>
   cases lv with
   | int q m=>
    cases cv with
    | d cv=>
     cases cv with
     | int q' n=>
      simp only
      split<;>rfl
     | _=>rfl
    | _=>rfl
   | _=>rfl
  | _=>rfl
theorem zd {rs:List Nat} {st st2:St} (h:gj rs st st2) {op:bN} (hr: ∀n∈op.reads,n∈rs) (d:Nat) :IC d op st2=IC d op st:=by
 cases op<;>try rfl
 case box el sz x=>
  have hx:x.ev st2=x.ev st:=h.ev fun n hn=>hr n (by simpa [bN.reads] using hn)
  simp only [IC,hx]
 case b7 el sz b z l c=>
  have hl:l.ev st2=l.ev st:=h.ev fun n hn=>hr n (by simp [bN.reads,hn])
  have hc:c.ev st2=c.ev st:=h.ev fun n hn=>hr n (by simp [bN.reads,hn])
  simp only [IC,hl,hc]
theorem GG {d e:Nat} (x8:d≠e) {st:St} (h:st.No e) {op:bN} {p:Ob×AV} (hp:IC d op st=some p) :p.1.has e=false∧p.2.has e=false∧ ∀t,p.2.cH t=p.2:=by
 cases op<;>simp only [IC] at hp<;>try (cases hp; done)
 ·split at hp
  ·cases hp
   refine ⟨xg fun r hr c hc=> ?_,by simpa [AV.has] using x8,fun _=>rfl⟩
   simp only [List.mem_singleton] at hr
   subst hr
   exact St.No.cells (h.ev _) c hc
  ·cases hp
 ·split at hp<;>cases hp
  exact ⟨rfl,by simpa [AV.has] using x8,fun _=>rfl⟩
 ·split at hp
  ·split at hp<;>cases hp
   exact ⟨rfl,by simpa [AV.has] using x8,fun _=>rfl⟩
  ·cases hp
theorem pb {v:AV} {e:Nat} (h:v.has e=false) :v.kill e=v:=by simp [AV.kill,h]
theorem vE {v:AV} {d e:Nat} (h:v.has e=false) :(v.cH d).has e=false:=by
 cases v<;>try exact h
 rename_i t want x
 simp only [AV.cH]
 split
 ·rfl
 ·exact h
theorem mL {o:Ob} {e:Nat} (h:o.has e=false) :Ob.kill e o=some o:=by simp [Ob.kill,h]
theorem Jn {x y:aN} (ha:gN x y=true) (hb:Cb x y=true) {s s1 s2:St} (RO: ∀d,x.dst=some d→s.No d) (LF: ∀d,y.dst=some d→s.No d)
  (hx:bD call x s=some s1) (hy:bD call y s1=some s2) : ∃j0,bD call y s=some j0∧bD call x j0=some s2:=by
 simp only [Cb,Bool.and_eq_true,Bool.not_eq_true'] at hb
 obtain ⟨IA,GF,x7,uD,hxa,hya⟩:=hb
 obtain ⟨h1,h2⟩:=apart_spec ha
 rw [ma IA x7] at hx
 rw [ma GF uD] at hy
 cases hd:x.dst with
 | none=>rw [hd] at hx; cases cU:x.op<;>simp only [cU,bN.free,Bool.false_eq_true] at x7<;>simp [cU,aK] at hx
 | some d=>
  cases he:y.dst with
  | none=>rw [he] at hy; cases cU:y.op<;>simp only [cU,bN.free,Bool.false_eq_true] at uD<;>simp [cU,aK] at hy
  | some e=>
   have x8:d≠e:=fun h=>(h1 d hd).2 (by rw [he,h])
   have RP:=RO d hd
   have RQ:=LF e he
   rw [hd,pa x7 hxa] at hx
   rw [he,pa uD hya] at hy
   simp only [Option.map_eq_some_iff] at hx hy
   obtain ⟨⟨o,v⟩,hp,rfl⟩:=hx
   obtain ⟨⟨o',v'⟩,hq,rfl⟩:=hy
   have hS1:gj y.op.reads s ((s.at_ d o).put d v):=fun n hn=>by
    rw [RP.at_eq]
    exact er (st:=s) (rs:=y.op.reads) (v:=v) (fun hm=>(h1 d hd).1 (by simp [aN.reads,hm])) n hn
   rw [zd hS1 fun n hn=>hn] at hq
   have hS2:gj x.op.reads s ((s.at_ e o').put e v'):=fun n hn=>by
    rw [RQ.at_eq]
    exact er (st:=s) (rs:=x.op.reads) (v:=v') (fun hm=>h2 e he (by simp [aN.reads,hm])) n hn
   have g1:=GG x8 RQ hp
   have g2:=GG (Ne.symm x8) RP hq
   refine ⟨(s.at_ e o').put e v',by rw [ma GF uD,he,pa uD hya,hq]; rfl,?_⟩
   rw [ma IA x7,hd,pa x7 hxa,zd hS2 fun n hn=>hn,hp]
   simp only [Option.map_some,Option.some.injEq,St.at_,St.put,St.mk.injEq]
   refine ⟨funext fun n=> ?_,funext fun n=> ?_⟩
   ·have hk: ∀t,s.No t→(s.env n).kill t=s.env n:=fun t ht=>pb (ht.env n)
    by_cases hn:n=d
    ·subst hn
     simp only [if_true,x8,if_false]
     rw [pb g1.2.1,g1.2.2]
    ·by_cases hm:n=e
     ·subst hm
      simp only [if_true,hn,if_false]
      rw [pb g2.2.1,g2.2.2]
     ·simp only [hn,hm,if_false]
      rw [hk d RP,hk e RQ,pb (vE (RP.env n)),pb (vE (RQ.env n)),tf]
   ·by_cases hn:n=d
    ·subst hn
     simp only [if_true,x8,if_false,Option.bind_some]
     rw [mL g1.1]
    ·by_cases hm:n=e
     ·subst hm
      simp only [if_true,hn,if_false,Option.bind_some]
      rw [mL g2.1]
     ·simp only [hn,hm,if_false]
      cases hs:s.aT n with
      | none=>rfl
      | some ob=>
       simp only [Option.bind_some,mL (RP.aT n ob hs),mL (RQ.aT n ob hs)]
theorem Bl {d:Nat} (h:st.No d) {el sz b:Nat} {x y:AV} (hx:x.has d=false) {st':St} (hs:eK st d el sz b x y=some st') (q:Nat) (hq:q≠d) (hqs: ∀s sz off n,x= .ah s sz off n→q≠s) :st'.aT q=st.aT q:=by
 have lf: ∀o v,((st.at_ d o).put d v).aT q=st.aT q:=fun o v=>by
  rw [h.at_eq]
  simp [St.put,hq]
 unfold eK at hs
 (repeat' split at hs)<;>first
  | (cases hs; done)
  | (cases hs; rfl)
  | (cases hs; exact lf _ _)
  | skip
 rename_i s bd off len _ DW cO es aZ _
 cases hs
 have RM:s≠d:=by simpa [AV.has] using hx
 have halt:alt s d=d:=by
  unfold alt
  rw [show Nat.beq s d=false from by cases hb:Nat.beq s d with | false=>rfl | true=>exact absurd (Nat.eq_of_beq_eq_true hb) RM]
  rfl
 have ab7:=hqs s bd off len rfl
 rw [halt,(h.drop s).at_eq]
 simp [St.put,St.drop,hq,ab7]
theorem Jo {x y:aN} {p:Nat×Nat} (hd:IN x y=some p) {s s1 s2:St} (fD:iN s p=true) (LF: ∀d,y.dst=some d→s.No d) (hx:bD call x s=some s1) (hy:bD call y s1=some s2) :
  ∃j0,bD call y s=some j0∧bD call x j0=some s2:=by
 unfold IN at hd
 split at hd
 ·rename_i g sz n szs el bd b m c hxg x7 hyg uD
  split at hd
  ·rename_i ha
   cases hd
   simp only [Bool.and_eq_true] at ha
   obtain ⟨ha,hxt,GF⟩:=ha
   have Fu:x.e=false:=by simp [aN.e,hxt]
   have Fw:x.cls= .r:=by simp only [aN.cls,Fu,cond_false,x7]; rfl
   have cU:y.op.free=true:=by rw [uD]; rfl
   obtain ⟨h1,h2⟩:=apart_spec ha
   refine CU ha GF cU LF (.inr Fw) (fun d s' x8 dp=> ?_) hx hy
   have IB:=LF d x8
   obtain ⟨⟨v,qk⟩,_⟩:=za (call:=call) cU IB dp
   have nj:n≠d:=fun e=>h2 d x8 (by simp [aN.reads,x7,bN.reads,AX.rd,e])
   have Nk:s'.env n=(s.env n).cH d:=by rw [qk]; simp [St.put,nj]
   rw [uD] at dp
   simp only [aK] at dp
   simp only [fG,hxg,x7,cC,bw,AX.ev]
   congr 2
   have aC: ∀u,s.env n= .d u→dJ s' g sz (s'.env n).strip=dJ s g sz (s.env n).strip:=fun u hu=>by
    rw [Nk,hu]
    exact kN _ _ _
   have ptr: ∀q a b c,s.env n= .ptr q a b c→(∀s0 sz off k,(AX.t m).ev s= .ah s0 sz off k→q≠s0)→dJ s' g sz (s'.env n).strip=dJ s g sz (s.env n).strip:=fun q a b c hu hq=>by
    rw [Nk,hu]
    have hqd:q≠d:=by
     have :=IB.env n
     rw [hu] at this
     simpa [AV.has] using this
    have :=Bl IB (IB.ev _) dp q hqd hq
    simp only [AV.cH,AV.strip,dJ,this]
   unfold iN at fD
   split at fD
   ·split at fD
    ·rename_i h3
     exact aC _ h3
    ·cases fD
   split at fD
   ·rename_i h3 _
    exact aC _ h3
   ·rename_i h3 h4
    exact ptr _ _ _ _ h3 fun s0 sz off k he=>by
     simp [AX.ev,h4,AV.strip] at he
   ·rename_i q _ _ _ s' _ _ _ h3 h4
    refine ptr _ _ _ _ h3 fun s0 sz off k he=> ?_
    simp only [AX.ev,h4,AV.strip,AV.ah.injEq] at he
    rw [← he.1]
    simpa using fD
   ·rename_i h3 h4
    exact ptr _ _ _ _ h3 fun s0 sz off k he=>by
     simp [AX.ev,h4,AV.strip] at he
   ·rename_i h3 _
    exact aC _ h3
   ·rename_i h3 _
    exact aC _ h3
   ·cases fD
  ·cases hd
 ·cases hd
theorem ik {op:bN} (hd: ∀n∈op.reads,∃u,st.env n= .d u) (h2: ∀n∈op.reads,st2.env n=st.env n) {x:AX} (hx: ∀n∈x.rd,n∈op.reads) : ∃u,x.ev st= .d u∧x.ev st2= .d u:=by
 cases x with
 | t n=>
  have hn:=hx n (by simp [AX.rd])
  obtain ⟨u,hu⟩:=hd n hn
  exact ⟨u,by simp [AX.ev,hu,AV.strip],by simp [AX.ev,h2 n hn,hu,AV.strip]⟩
 | k c=>exact ⟨c,rfl,rfl⟩
 | fn g=>exact ⟨_,rfl,rfl⟩
theorem xh {op:bN} (hd: ∀n∈op.reads,∃u,st.env n= .d u) (h2: ∀n∈op.reads,st2.env n=st.env n) {x:Option AX} (hx: ∀n∈MG x,n∈op.reads) :dV st2 x=dV st x:=by
 cases x with
 | none=>rfl
 | some x=>
  obtain ⟨u,h3,h4⟩:=ik hd h2 (x:=x) hx
  simp only [dV,h3,h4]
theorem nR {op:bN} (hs:op.simple=true) (hd: ∀n∈op.reads,∃u,st.env n= .d u) (h2: ∀n∈op.reads,st2.env n=st.env n) :cC call op st2=cC call op st∧ ∀v,cC call op st=some v→ ∃u,v= .d u:=by
 cases op<;>simp only [bN.simple,Bool.false_eq_true] at hs
 case mv x=>
  obtain ⟨u,h3,h4⟩:=ik hd h2 (x:=x) (fun n hn=>hn)
  simp only [cC,bw,h3,h4]
  exact ⟨trivial,fun v hv=>⟨u,(Option.some.inj hv).symm⟩⟩
 case load g sz x z=>
  obtain ⟨u,h3,h4⟩:=ik hd h2 (x:=x) (fun n hn=>hn)
  simp only [cC,bw,h3,h4,kN (st:=st) (st2:=st2)]
  refine ⟨trivial,fun v hv=> ?_⟩
  simp only [Option.bind_eq_some_iff] at hv
  obtain ⟨w,hw,hc⟩:=hv
  rw [Au hc]
  cases u<;>simp only [dJ,reduceCtorEq] at hw
  unfold wy at hw
  split at hw
  ·split at hw<;>cases hw
   exact ⟨_,rfl⟩
  ·simp only [Option.map_eq_some_iff] at hw
   obtain ⟨c,_,rfl⟩:=hw
   exact ⟨_,rfl⟩
 case aF el sz len z parts=>
  have Gp:gj (bN.aF el sz len z parts).reads st st2:=fun n hn=> .inl (h2 n hn)
  simp only [cC]
  rw [mI Gp sz parts _ fun n hn=>by simpa [bN.reads] using hn]
  refine ⟨rfl,fun v hv=> ?_⟩
  (repeat' split at hv)<;>cases hv
  exact ⟨_,rfl⟩
 case bin op x y=>
  obtain ⟨u,h3,h4⟩:=ik hd h2 (x:=x) (fun n hn=>by simp [bN.reads,hn])
  obtain ⟨u',h5,h6⟩:=ik hd h2 (x:=y) (fun n hn=>by simp [bN.reads,hn])
  simp only [cC,bw,h3,h4,h5,h6]
  refine ⟨trivial,fun v hv=> ?_⟩
  unfold At at hv
  split at hv
  ·split at hv
   ·simp only [Option.map_eq_some_iff] at hv
    obtain ⟨w,_,rfl⟩:=hv
    exact ⟨_,rfl⟩
   ·cases hv
  ·cases hv
 case conv k x=>
  obtain ⟨u,h3,h4⟩:=ik hd h2 (x:=x) (fun n hn=>hn)
  simp only [cC,bw,h3,h4]
  refine ⟨trivial,fun v hv=> ?_⟩
  unfold yb at hv
  split at hv<;>cases hv
  exact ⟨_,rfl⟩
 case aD off x=>
  obtain ⟨u,h3,h4⟩:=ik hd h2 (x:=x) (fun n hn=>hn)
  simp only [cC,bw,h3,h4]
  refine ⟨trivial,fun v hv=> ?_⟩
  cases u<;>simp only [nu,reduceCtorEq] at hv
  exact ⟨_,(Option.some.inj hv).symm⟩
 case bc sz x i z=>
  obtain ⟨u,h3,h4⟩:=ik hd h2 (x:=x) (fun n hn=>by simp [bN.reads,hn])
  obtain ⟨u',h5,h6⟩:=ik hd h2 (x:=i) (fun n hn=>by simp [bN.reads,hn])
  simp only [cC,bw,h3,h4,h5,h6]
  refine ⟨trivial,fun v hv=> ?_⟩
  simp only [Option.bind_eq_some_iff] at hv
  obtain ⟨w,hw,hc⟩:=hv
  rw [wA hc]
  unfold ig at hw
  split at hw
  ·split at hw
   ·simp only [Option.map_eq_some_iff] at hw
    obtain ⟨_,_,rfl⟩:=hw
    exact ⟨_,rfl⟩
   ·cases hw
  ·split at hw
   ·simp only [Option.map_eq_some_iff] at hw
    obtain ⟨_,_,rfl⟩:=hw
    exact ⟨_,rfl⟩
   ·cases hw
  ·rename_i he _
   cases he
  ·rename_i he _
   cases he
  ·cases hw
 case slice sz x lo hi mx=>
  obtain ⟨u,h3,h4⟩:=ik hd h2 (x:=x) (fun n hn=>by simp [bN.reads,hn])
  have e1:=xh hd h2 (x:=lo) (fun n hn=>by simp [bN.reads,hn])
  have e2:=xh hd h2 (x:=hi) (fun n hn=>by simp [bN.reads,hn])
  have e3:=xh hd h2 (x:=mx) (fun n hn=>by simp [bN.reads,hn])
  simp only [cC,bw,h3,h4]
  have hse:iL st2 sz (.d u) lo hi mx=iL st sz (.d u) lo hi mx:=by simp only [iL,e1,e2,e3]
  refine ⟨hse,fun v hv=> ?_⟩
  unfold iL at hv
  split at hv
  ·dsimp only at hv
   split at hv
   ·split at hv<;>cases hv
    exact ⟨_,rfl⟩
   ·split at hv
    ·split at hv
     ·cases hv; exact ⟨_,rfl⟩
     ·split at hv<;>cases hv
      exact ⟨_,rfl⟩
    ·cases hv
   ·split at hv
    ·split at hv
     ·cases hv; exact ⟨_,rfl⟩
     ·split at hv<;>cases hv
      exact ⟨_,rfl⟩
    ·cases hv
   ·rename_i he
    cases he
   ·cases hv
  ·cases hv
 case ext x i=>
  obtain ⟨u,h3,h4⟩:=ik hd h2 (x:=x) (fun n hn=>hn)
  simp only [cC,bw,h3,h4]
  refine ⟨trivial,fun v hv=> ?_⟩
  unfold FB at hv
  split at hv
  ·rename_i he
   cases he
  ·simp only [Option.map_eq_some_iff] at hv
   obtain ⟨_,_,rfl⟩:=hv
   exact ⟨_,rfl⟩
  ·cases hv
 case len x=>
  obtain ⟨u,h3,h4⟩:=ik hd h2 (x:=x) (fun n hn=>hn)
  simp only [cC,bw,h3,h4]
  refine ⟨trivial,fun v hv=> ?_⟩
  unfold FA at hv
  split at hv<;>cases hv<;>exact ⟨_,rfl⟩
theorem tl (v:AV) (s e:Nat) :(v.cH e).kill s=(v.kill s).cH e:=by
 have other: ∀v:AV,v.cH e=v→(v.cH e).kill s=(v.kill s).cH e:=fun v hv=>by
  rw [hv]
  unfold AV.kill
  split
  ·rfl
  ·exact hv.symm
 cases v<;>try exact other _ rfl
 rename_i t want x
 simp only [AV.kill,AV.cH,AV.has]
 by_cases h1:t=e<;>by_cases h2:x.has s=true<;>simp [h1,h2,AV.has,AV.cH]
theorem fP {e s:Nat} {o:Ob} {u:DV} :(st.put e (.d u)).at_ s o=(st.at_ s o).put e (.d u):=by
 simp only [St.at_,St.put,St.mk.injEq,and_true]
 funext n
 split
 ·simp [AV.kill,AV.has]
 ·exact tl _ _ _
theorem GH {e s:Nat} {u:DV} :(st.put e (.d u)).gE s=(st.gE s).put e (.d u):=by
 simp only [St.gE,St.put,St.mk.injEq,and_true]
 funext n
 split
 ·simp [AV.kill,AV.has]
 ·exact tl _ _ _
theorem cP {d e:Nat} {u:DV} {p:AV} (cu:e≠d) (hp:p.cH e=p) :(st.put e (.d u)).put d p=(st.put d p).put e (.d u):=kO cu rfl hp
theorem nS {t e:Nat} {u:DV} : ∀(l:aw) (j:Nat) (s:St),bV t j l (s.put e (.d u))=((bV t j l s).1,(bV t j l s).2.put e (.d u))
 | [],j,s=>rfl
 | x::l,j,s=>by
  have other: ∀y:DV,(AV.d y::(bV t (j+1) l (s.put e (.d u))).1,(bV t (j+1) l (s.put e (.d u))).2)=(AV.d y::(bV t (j+1) l s).1,(bV t (j+1) l s).2.put e (.d u)):=fun y=>by rw [nS l (j+1) s]
  cases x with
  | sl q sz es=>
   cases q with
   | own el=>simp only [bV]; rw [fP,nS l (j+1)]
   | _=>exact other _
  | _=>exact other _
theorem tm {t e:Nat} {u:DV} : ∀(es:aj) (j:Nat) (s:St),cN t j es (s.put e (.d u))=((cN t j es s).1,(cN t j es s).2.put e (.d u))
 | [],j,s=>rfl
 | x::es,j,s=>by simp only [cN]; rw [nS x j s,tm es (j+x.length)]
theorem gU {t e:Nat} {u:DV} : ∀(l:aw) (j:Nat) (s:St),bX t j l (s.put e (.d u))=((bX t j l s).1,(bX t j l s).2.put e (.d u))
 | [],j,s=>rfl
 | x::l,j,s=>by
  have other: ∀y:DV,(AV.d y::(bX t (j+1) l (s.put e (.d u))).1,(bX t (j+1) l (s.put e (.d u))).2)=(AV.d y::(bX t (j+1) l s).1,(bX t (j+1) l s).2.put e (.d u)):=fun y=>by rw [gU l (j+1) s]
  cases x with
  | sl q sz es=>
   cases q with
   | own el=>simp only [bX]; rw [fP,gU l (j+1)]
   | cT el=>simp only [bX]; rw [tm es (j+1) s,fP,gU l (j+1+gK es)]
   | _=>exact other _
  | _=>exact other _
theorem ql {t e:Nat} {u:DV} {r:DV} {s:St} (cu:e≠t) :place t r (s.put e (.d u))=(place t r s).put e (.d u):=by
 have other:(s.put e (.d u)).put t (.d r)=(s.put t (.d r)).put e (.d u):=cP cu rfl
 unfold place
 split
 ·rw [fP,cP cu rfl]
 ·rename_i el sz es
  simp only [gU]
  refine cP cu ?_
  show ((AV.ah _ _ _ _::(bX t _ [] _).1).headD .undef).cH e=_
  rfl
 ·split
  ·simp only [gU]
   exact cP cu rfl
  ·exact cP cu rfl
 ·split
  ·simp only [gU]
   exact cP cu rfl
  ·exact cP cu rfl
 ·exact other
theorem vG {op:bN} (cU:(op.makes||op.free)=true) {d e:Nat} {u:DV} (he:e ∉ op.reads) (cu:e≠d) :
  cJ call (some d) op (st.put e (.d u))=(cJ call (some d) op st).map (·.put e (.d u)):=by
 have hs:gj op.reads st (st.put e (.d u)):=er he
 have hsn:snap (st.put e (.d u))=snap st:=te rfl
 cases op<;>simp only [bN.free,bN.makes,Bool.or_self,Bool.false_eq_true,Bool.or_false,Bool.or_true] at cU
 case box el sz x=>
  have hx:x.ev (st.put e (.d u))=x.ev st:=hs.ev fun n hn=>by simpa [bN.reads] using hn
  simp only [cJ,aK,hx]
  split
  ·rw [Option.map_some,fP,cP cu rfl]
  ·rfl
 case alloc el sz z=>
  simp only [cJ,aK]
  split
  ·rw [Option.map_some,fP,cP cu rfl]
  ·rfl
 case aF el sz len z parts=>
  have hr:dq (st.put e (.d u)) sz (List.replicate len (z.map .d)) parts=dq st sz (List.replicate len (z.map .d)) parts:=mI hs sz parts _ fun n hn=>by simpa [bN.reads] using hn
  simp only [cJ,aK,hr]
  split
  ·split
   ·split
    ·rfl
    ·rw [Option.map_some,fP,cP cu rfl]
   ·rfl
  ·rfl
 case append el sz b x y=>
  have hx:x.ev (st.put e (.d u))=x.ev st:=hs.ev fun n hn=>by simp [bN.reads,hn]
  have hy:y.ev (st.put e (.d u))=y.ev st:=hs.ev fun n hn=>by simp [bN.reads,hn]
  simp only [cJ,aK,hx,hy,eK]
  rw [show elems (st.put e (.d u)) sz (y.ev st)=elems st sz (y.ev st) from rfl]
  cases elems st sz (y.ev st) with
  | none=>rfl
  | some news=>
   simp only
   split
   ·split
    ·rename_i hz; rw [Option.map_some,cP cu (by rw [hz]; rfl)]
    ·rename_i hz; rw [Option.map_some,cP cu (by rw [hz]; rfl)]
    ·rename_i hz; rw [Option.map_some,cP cu (by rw [hz]; rfl)]
    ·rename_i hz; rw [Option.map_some,cP cu (by rw [hz]; rfl)]
    ·rfl
   ·split
    ·split
     ·split
      ·rw [Option.map_some,fP,cP cu rfl]
      ·rfl
     ·split
      ·rw [Option.map_some,fP,cP cu rfl]
      ·rfl
     ·split
      ·rw [Option.map_some,fP,cP cu rfl]
      ·rfl
     ·rename_i s bd off len hz
      rw [show (st.put e (.d u)).aT s=st.aT s from rfl]
      split
      ·split
       ·rw [Option.map_some,show (st.put e (.d u)).drop s=(st.drop s).put e (.d u) from rfl,fP,cP cu rfl]
       ·rfl
      ·rfl
     ·rfl
    ·rfl
 case b7 el sz b z l c=>
  have hl:l.ev (st.put e (.d u))=l.ev st:=hs.ev fun n hn=>by simp [bN.reads,hn]
  have hc:c.ev (st.put e (.d u))=c.ev st:=hs.ev fun n hn=>by simp [bN.reads,hn]
  simp only [cJ,aK,hl,hc]
  split
  ·split
   ·rw [Option.map_some,fP,cP cu rfl]
   ·rfl
  ·rfl
 case call f args=>
  have ha:args.map (·.ev (st.put e (.d u)))=args.map (·.ev st):=hs.Gv fun n hn=>by simpa [bN.reads] using hn
  simp only [cJ,ha,hsn]
  cases bm (snap st) (args.map (·.ev st)) with
  | none=>rfl
  | some ds=>
   simp only
   cases call f ds with
   | none=>rfl
   | some r=>
    simp only [Option.bind_some]
    split
    ·rfl
    ·rw [Option.map_some,ql cu]
 case eO f x args=>
  have ha:args.map (·.ev (st.put e (.d u)))=args.map (·.ev st):=hs.Gv fun n hn=>by
   simp only [bN.reads,List.mem_append]
   exact .inr hn
  have hx:x.ev (st.put e (.d u))=x.ev st:=hs.ev fun n hn=>by simp [bN.reads,hn]
  simp only [cJ,aK,ha,hsn,hx]
  cases x.ev st with
  | ah s sz off len=>
   simp only
   rw [show (st.put e (.d u)).aT s=st.aT s from rfl]
   cases st.aT s with
   | none=>rfl
   | some o=>
    cases o with
    | mix=>rfl
    | aC el bd es=>
     simp only
     split
     ·cases bm (snap st) (args.map (·.ev st)) with
      | none=>rfl
      | some ds=>
       simp only
       cases call f (.mv el sz es::ds) with
       | none=>rfl
       | some r=>
        simp only [Option.map_some]
        rw [GH,ql cu]
     ·rfl
  | d y=>
   simp only
   cases bm (snap st) (AV.d y::args.map (·.ev st)) with
   | none=>rfl
   | some ds=>
    simp only
    cases call f ds with
    | none=>rfl
    | some r=>
     simp only [Option.bind_some]
     split
     ·rfl
     ·rw [Option.map_some,ql cu]
  | _=>rfl
theorem vI {op:bN} {dst:Option Nat} {s s':St} (h:cJ call dst op s=some s') {n:Nat} (hn:dst≠some n) {u:DV} (hu:s.env n= .d u) (cU:(op.makes||op.free)=true) :s'.env n= .d u:=by
 have hnr:n ∉ op.reads∨n∈op.reads:=by
  by_cases h:n∈op.reads
  ·exact .inr h
  ·exact .inl h
 cases dst with
 | none=>cases op<;>simp only [bN.free,bN.makes,Bool.or_self,Bool.false_eq_true] at cU<;>simp [cJ,aK,bw] at h
 | some d=>
  have hd:n≠d:=fun e=>hn (by rw [e])
  have e1: ∀(o:Ob) (t:Nat) (p:AV),((s.at_ t o).put d p).env n= .d u:=fun o t p=>by
   simp [St.put,if_neg hd,St.at_,AV.kill,hu,AV.has,AV.cH]
  have e2: ∀p:AV,(s.put d p).env n= .d u:=fun p=>by simp [St.put,if_neg hd,hu,AV.cH]
  have e3I: ∀(l:aw) (j:Nat) (q:St),q.env n= .d u→(bV d j l q).2.env n= .d u:=by
   intro l
   induction l with
   | nil=>intro j q hq; exact hq
   | cons x l ih=>
    intro j q hq
    have other:(bV d (j+1) l q).2.env n= .d u:=ih (j+1) q hq
    cases x with
    | sl k sz es=>
     cases k with
     | own el=>exact ih (j+1) _ (by simp [St.at_,AV.kill,hq,AV.has])
     | _=>exact other
    | _=>exact other
  have e3R: ∀(es:aj) (j:Nat) (q:St),q.env n= .d u→(cN d j es q).2.env n= .d u:=by
   intro es
   induction es with
   | nil=>intro j q hq; exact hq
   | cons x es ih=>exact fun j q hq=>ih _ _ (e3I x j q hq)
  have e3: ∀(l:aw) (j:Nat) (q:St),q.env n= .d u→(bX d j l q).2.env n= .d u:=by
   intro l
   induction l with
   | nil=>intro j q hq; exact hq
   | cons x l ih=>
    intro j q hq
    have other:(bX d (j+1) l q).2.env n= .d u:=ih (j+1) q hq
    cases x with
    | sl k sz es=>
     cases k with
     | own el=>exact ih (j+1) _ (by simp [St.at_,AV.kill,hq,AV.has])
     | cT el=>
      have hr:=e3R es (j+1) q hq
      exact ih (j+1+gK es) _ (by simp [St.at_,AV.kill,hr,AV.has])
     | _=>exact other
    | _=>exact other
  have e4: ∀(r:DV) (q:St),q.env n= .d u→(place d r q).env n= .d u:=by
   intro r q hq
   have p1: ∀(q:St),q.env n= .d u→ ∀p:AV,(q.put d p).env n= .d u:=fun q hq p=>by simp [St.put,if_neg hd,hq,AV.cH]
   unfold place
   split
   ·exact p1 _ (by simp [St.at_,AV.kill,hq,AV.has]) _
   ·exact p1 _ (e3 _ _ _ hq) _
   ·split
    ·exact p1 _ (e3 _ _ _ hq) _
    ·exact p1 _ hq _
   ·split
    ·exact p1 _ (e3 _ _ _ hq) _
    ·exact p1 _ hq _
   ·exact p1 _ hq _
  cases op<;>simp only [bN.free,bN.makes,Bool.or_self,Bool.false_eq_true,Bool.or_false,Bool.or_true] at cU
  case box=>
   simp only [cJ,aK] at h
   split at h<;>cases h
   exact e1 _ _ _
  case alloc=>
   simp only [cJ,aK] at h
   split at h<;>cases h
   exact e1 _ _ _
  case aF=>
   simp only [cJ,aK] at h
   (repeat' split at h)<;>first | (cases h; done) | (cases h; exact e1 _ _ _)
  case append=>
   simp only [cJ,aK,eK] at h
   (repeat' split at h)<;>first
    | (cases h; done)
    | (cases h; exact e2 _)
    | (cases h; exact e1 _ _ _)
    | (cases h; simp [St.put,if_neg hd,St.at_,St.drop,AV.kill,hu,AV.has,AV.cH])
  case b7=>
   simp only [cJ,aK] at h
   (repeat' split at h)<;>first | (cases h; done) | (cases h; exact e1 _ _ _)
  case call=>
   simp only [cJ] at h
   split at h
   ·simp only [Option.bind_eq_some_iff] at h
    obtain ⟨r,_,h⟩:=h
    split at h<;>cases h
    exact e4 _ _ hu
   ·cases h
  case eO=>
   simp only [cJ,aK] at h
   (repeat' split at h)<;>try (cases h; done)
   ·simp only [Option.map_eq_some_iff] at h
    obtain ⟨r,_,rfl⟩:=h
    exact e4 _ _ (by simp [St.gE,AV.kill,hu,AV.has])
   ·simp only [Option.bind_eq_some_iff] at h
    obtain ⟨r,_,h⟩:=h
    split at h<;>cases h
    exact e4 _ _ hu
theorem q9 {y:aN} (hg:y.g.isNone=true) (he:y.e=false) (hs:y.op.simple=true) :(y.cls= .p∨y.cls= .r)∧ ∀s,fG call y s=(cC call y.op s).map AV.strip:=by
 have Ar:y.g=none:=by simpa using hg
 refine ⟨?_,fun s=>by simp only [fG,Ar]⟩
 simp only [aN.cls,he,cond_false]
 cases hy:y.op<;>simp_all [bN.simple,bN.cls]
theorem xi {x:aN} (he:x.e=true) (s:St) :bD call x s=cJ call x.dst x.op s:=by
 unfold bD
 rw [if_pos he]
theorem Jp {x y:aN} (hd:MI x y=true) {s s1 s2:St} (l7: ∀n∈y.op.reads,∃u,s.env n= .d u) (hx:bD call x s=some s1) (hy:bD call y s1=some s2) : ∃j0,bD call y s=some j0∧bD call x j0=some s2:=by
 simp only [MI,Bool.and_eq_true,Bool.not_eq_true'] at hd
 obtain ⟨Fu,cU,hg,Fv,hs,ha⟩:=hd
 obtain ⟨h1,h2⟩:=apart_spec ha
 obtain ⟨Jb,dI⟩:=q9 (call:=call) hg Fv hs
 rw [xi Fu] at hx
 rw [dE Jb] at hy
 obtain ⟨e,v,x8,hv,rfl⟩:=et hy
 cases hd:x.dst with
 | none=>rw [hd] at hx; cases x7:x.op<;>simp only [x7,bN.free,bN.makes,Bool.or_self,Bool.false_eq_true] at cU<;>simp [x7,cJ,aK,bw] at hx
 | some d=>
  have hdn:=h1 d hd
  have Nk:=h2 e x8
  have GI: ∀n∈y.op.reads,s1.env n=s.env n:=fun n hn=>by
   obtain ⟨u,hu⟩:=l7 n hn
   rw [hu]
   exact vI hx (fun he=>hdn.1 (by rw [hd] at he; cases he; simp [aN.reads,hn])) hu cU
  obtain ⟨g1,g2⟩:=nR (call:=call) hs l7 GI
  rw [dI,g1] at hv
  simp only [Option.map_eq_some_iff] at hv
  obtain ⟨v0,EB,rfl⟩:=hv
  obtain ⟨u,rfl⟩:=g2 v0 EB
  refine ⟨s.put e (.d u),by rw [dE Jb]; simp only [fU,x8,dI,EB,Option.map_some,AV.strip],?_⟩
  rw [xi Fu,hd,vG cU (fun hm=>Nk (by simp [aN.reads,hm])) (fun h=>hdn.2 (by rw [x8,h])),← hd,hx]
  rfl
theorem Jq {x y:aN} (hd:MJ x y=true) {s s1 s2:St} (l7: ∀n∈x.op.reads,∃u,s.env n= .d u) (hx:bD call x s=some s1) (hy:bD call y s1=some s2) : ∃j0,bD call y s=some j0∧bD call x j0=some s2:=by
 simp only [MJ,Bool.and_eq_true,Bool.not_eq_true'] at hd
 obtain ⟨Fv,cU,hg,Fu,hs,ha⟩:=hd
 obtain ⟨h1,h2⟩:=apart_spec ha
 obtain ⟨Fw,dI⟩:=q9 (call:=call) hg Fu hs
 rw [xi Fv] at hy
 rw [dE Fw] at hx
 obtain ⟨e,v,x8,hv,rfl⟩:=et hx
 rw [dI] at hv
 simp only [Option.map_eq_some_iff] at hv
 obtain ⟨v0,EB,rfl⟩:=hv
 obtain ⟨u,rfl⟩:=(nR (call:=call) (st2:=s) hs l7 (fun _ _=>rfl)).2 v0 EB
 cases hd:y.dst with
 | none=>rw [hd] at hy; cases uD:y.op<;>simp only [uD,bN.free,bN.makes,Bool.or_self,Bool.false_eq_true] at cU<;>simp [uD,cJ,aK,bw] at hy
 | some d=>
  have Nk:=h1 e x8
  have hdn:=h2 d hd
  rw [hd,show (AV.d u).strip= .d u from rfl,vG cU (fun hm=>Nk.1 (by simp [aN.reads,hm])) (fun h=>Nk.2 (by rw [hd,h]))] at hy
  simp only [Option.map_eq_some_iff] at hy
  obtain ⟨s',dp,rfl⟩:=hy
  refine ⟨s',by rw [xi Fv,hd]; exact dp,?_⟩
  have GI: ∀n∈x.op.reads,s'.env n=s.env n:=fun n hn=>by
   obtain ⟨w,hw⟩:=l7 n hn
   rw [hw]
   exact vI dp (fun he=>hdn (by cases he; simp [aN.reads,hn])) hw cU
  rw [dE Fw]
  simp only [fU,x8,dI,(nR (call:=call) hs l7 GI).1,EB,Option.map_some,AV.strip]
theorem swap_comm {x y:aN} (hc:FM x y=true) {s s1 s2:St} (RO:x.f=true→ ∀d,x.dst=some d→s.No d) (LF:y.f=true→ ∀d,y.dst=some d→s.No d) (hx:bD call x s=some s1) (hy:bD call y s1=some s2) :
  ∃j0,bD call y s=some j0∧bD call x j0=some s2:=by
 simp only [FM,Bool.and_eq_true] at hc
 obtain ⟨ha,hc⟩:=hc
 rcases Bool.or_eq_true_iff.1 hc with hc | hc
 case inr=>
  rcases Bool.or_eq_true_iff.1 hc with hc | hb
  case inr=>
   have rX:=hb
   simp only [Cb,Bool.and_eq_true] at rX
   exact Jn ha hb (RO rX.1) (LF rX.2.1) hx hy
  rcases Bool.or_eq_true_iff.1 hc with hf | hf
  ·have RR:=hf
   simp only [uY,Bool.and_eq_true] at RR
   obtain ⟨⟨IA,cU⟩,jo⟩:=RR
   have Jb:y.cls= .p∨y.cls= .r:=by cases hy':y.cls<;>simp_all
   refine Jm ha IA cU (RO IA) Jb (fun d s' hd dp=> ?_) hx hy
   exact (zb hf hd ((apart_spec ha).1 d hd).1 (RO IA d hd) dp).2
  ·have RR:=hf
   simp only [uY,Bool.and_eq_true] at RR
   obtain ⟨⟨GF,cU⟩,jo⟩:=RR
   have Fw:x.cls= .p∨x.cls= .r:=by cases uK:x.cls<;>simp_all
   refine CU ha GF cU (LF GF) Fw (fun d s' hd dp=> ?_) hx hy
   exact (zb hf hd ((apart_spec ha).2 d hd) (LF GF d hd) dp).2
 have vv:(x.cls= .p∨x.cls= .r)→(y.cls= .p∨y.cls= .r)→ ∃j0,bD call y s=some j0∧bD call x j0=some s2:=by
  intro h1 h2
  rw [dE h1] at hx
  rw [dE h2] at hy
  obtain ⟨j0,h3,h4⟩:=Jj ha hx hy
  exact ⟨j0,by rw [dE h2]; exact h3,by rw [dE h1]; exact h4⟩
 cases h1:x.cls<;>cases h2:y.cls<;>simp only [h1,h2,Bool.false_eq_true] at hc
 ·exact vv (.inl h1) (.inl h2)
 ·exact vv (.inl h1) (.inr h2)
 ·exact Jk ha h1 h2 hx hy
 ·exact vv (.inr h1) (.inl h2)
 ·exact vv (.inr h1) (.inr h2)
 ·exact Jl ha h1 h2 hx hy
def AV.eW:AV→Bool
 | .d _ | .ptr _ _ _ _ | .ah _ _ _ _=>true
 | _=>false
theorem Bm {v:AV} {t:Nat} (h:(v.cH t).eW=true) :v.cH t=v:=by
 cases v<;>first | rfl | skip
 rename_i t' want v
 simp only [AV.cH] at h ⊢
 split at h<;>simp [AV.eW] at h
theorem dx {s:St} {t n:Nat} {v:AV} (hn:t≠n) (h:((s.put t v).env n).eW=true) :s.env n=(s.put t v).env n:=by
 simp only [St.put,if_neg (Ne.symm hn)] at h ⊢
 exact (Bm h).symm
theorem pc {s:St} {t n:Nat} {o:Ob} (h:((s.at_ t o).env n).eW=true) :s.env n=(s.at_ t o).env n:=by
 simp only [St.at_,AV.kill] at h ⊢
 split at h
 ·simp [AV.eW] at h
 ·rename_i hh
  rw [if_neg hh]
theorem Bn {s:St} {t n:Nat} (h:((s.gE t).env n).eW=true) :s.env n=(s.gE t).env n:=by
 simp only [St.gE,AV.kill] at h ⊢
 split at h
 ·simp [AV.eW] at h
 ·rename_i hh
  rw [if_neg hh]
theorem iF {s:St} {t q n:Nat} {v:AV} {o:Ob} (hn:t≠n) (h:(((s.at_ q o).put t v).env n).eW=true) :s.env n=((s.at_ q o).put t v).env n:=by
 have h1:=dx hn h
 rw [← h1] at h
 rw [← h1]
 exact pc h
theorem kP {t n:Nat} : ∀(l:aw) (j:Nat) (s:St),(((bV t j l s).2).env n).eW=true→s.env n=((bV t j l s).2).env n
 | [],j,s,h=>rfl
 | x::l,j,s,h=>by
  have other:(((bV t (j+1) l s).2).env n).eW=true→s.env n=((bV t (j+1) l s).2).env n:=kP l (j+1) s
  cases x with
  | sl q sz es=>
   cases q with
   | own el=>
    simp only [bV] at h ⊢
    have h1:=kP l (j+1) _ h
    rw [← h1] at h
    rw [← h1]
    exact pc h
   | _=>exact other h
  | _=>exact other h
theorem pd {t n:Nat} : ∀(es:aj) (j:Nat) (s:St),(((cN t j es s).2).env n).eW=true→s.env n=((cN t j es s).2).env n
 | [],j,s,h=>rfl
 | x::es,j,s,h=>by
  simp only [cN] at h ⊢
  have h1:=pd es (j+x.length) _ h
  rw [← h1] at h
  rw [← h1]
  exact kP x j s h
theorem fv {t n:Nat} : ∀(l:aw) (j:Nat) (s:St),(((bX t j l s).2).env n).eW=true→s.env n=((bX t j l s).2).env n
 | [],j,s,h=>rfl
 | x::l,j,s,h=>by
  have other:(((bX t (j+1) l s).2).env n).eW=true→s.env n=((bX t (j+1) l s).2).env n:=fv l (j+1) s
  cases x with
  | sl q sz es=>
   cases q with
   | own el=>
    simp only [bX] at h ⊢
    have h1:=fv l (j+1) _ h
    rw [← h1] at h
    rw [← h1]
    exact pc h
   | cT el=>
    simp only [bX] at h ⊢
    have h1:=fv l (j+1+gK es) _ h
    rw [← h1] at h
    rw [← h1]
    have h2:=pc h
    rw [← h2] at h
    rw [← h2]
    exact pd es (j+1) s h
   | _=>exact other h
  | _=>exact other h
theorem mc {s:St} {t n:Nat} {r:DV} (hn:t≠n) (h:((place t r s).env n).eW=true) :s.env n=(place t r s).env n:=by
 cases r with
 | sl q sz es=>
  cases q with
  | own el=>exact iF hn h
  | cT el=>
   simp only [place] at h ⊢
   have h1:=dx hn h
   rw [← h1] at h
   rw [← h1]
   exact fv _ _ _ h
  | _=>exact dx hn h
 | tuple vs=>
  simp only [place] at h ⊢
  split at h
  ·rename_i hc
   rw [if_pos hc]
   have h1:=dx hn h
   rw [← h1] at h
   rw [← h1]
   exact fv _ _ _ h
  ·rename_i hc
   rw [if_neg hc]
   exact dx hn h
 | agg vs=>
  simp only [place] at h ⊢
  split at h
  ·rename_i hc
   rw [if_pos hc]
   have h1:=dx hn h
   rw [← h1] at h
   rw [← h1]
   exact fv _ _ _ h
  ·rename_i hc
   rw [if_neg hc]
   exact dx hn h
 | _=>exact dx hn h
theorem xj {s s':St} {t el sz b n:Nat} {x y:AV} (hn:t≠n) (h:eK s t el sz b x y=some s') (hs:(s'.env n).eW=true) :s.env n=s'.env n:=by
 unfold eK at h
 (repeat' split at h)<;>first
  | cases h; done
  | (cases h; exact dx hn hs)
  | (cases h; exact iF hn hs)
  | (cases h; exact iF (s:=s.drop _) hn hs)
theorem Bo {s s':St} {t n:Nat} {op:bN} (hn:t≠n) (h:(bw s op).map (fun v=>s.put t v.strip)=some s') (hs:(s'.env n).eW=true) :s.env n=s'.env n:=by
 simp only [Option.map_eq_some_iff] at h
 obtain ⟨v,_,rfl⟩:=h
 exact dx hn hs
theorem ze {s s':St} {dst:Option Nat} {op:bN} (h:cJ call dst op s=some s') {n:Nat} (hn:dst≠some n) (hs:(s'.env n).eW=true) :s.env n=s'.env n:=by
 have LG: ∀x y,op= .copy x y→s.env n=s'.env n:=fun x y e=>by
  subst e
  simp only [cJ,aK,Option.map_eq_some_iff] at h
  obtain ⟨⟨m,s1⟩,hc,rfl⟩:=h
  have he:s1.env=s.env:=by
   unfold qO at hc
   (repeat' split at hc)<;>cases hc
   rfl
  cases dst with
  | none=>simp only [St.uE,he]
  | some t=>
   have h1:=dx (s:=s1) (fun e=>hn (by rw [e])) hs
   rw [← he]
   exact h1
 have hhc: ∀f args,op= .aJ f args→s.env n=s'.env n:=fun f args e=>by
  subst e
  simp only [cJ,aK] at h
  split at h
  ·rename_i R d hd
   simp only [Option.bind_eq_some_iff] at h
   obtain ⟨r,_,h⟩:=h
   unfold qP at h
   split at h
   ·rename_i x os _
    simp only at h
    generalize FI R (dst.getD 49998) os.length=b at h
    cases hc:Nat.ble R.length os.length&&nodup (dK (jL R (dst.getD 49998) b) os.length 0) with
    | false=>simp [hc] at h
    | true=>
     simp only [hc,cond_true,Option.some.injEq] at h
     subst h
     have key: ∀q:St,(q.env n).eW=true→(∃T p L,q.env n=(St.tidy T p).env n∧p.env n=(St.gu L s).env n)→s.env n=q.env n:=by
      rintro q hq ⟨T,p,L,he,hp⟩
      have h1:(St.tidy T p).env n= .undef∨(St.tidy T p).env n=p.env n:=by
       unfold St.tidy
       cases DY p (p.nv T) with
       | false=>exact .inr rfl
       | true=>exact (fu (p.nv T) p n).imp id fun h=>h.1
      rcases h1 with h1 | h1
      ·rw [he,h1] at hq
       cases hq
      ·rcases fu L s n with h | ⟨h,_⟩
       ·rw [he,h1,hp,h] at hq
        cases hq
       ·rw [he,h1,hp,h]
     cases dst with
     | none=>exact key _ hs ⟨_,_,_,rfl,rfl⟩
     | some t=>
      simp only [St.uE] at hs ⊢
      have h1:=dx (fun e=>hn (by rw [e])) hs
      rw [← h1] at hs
      have h2:=key _ hs ⟨_,_,_,rfl,rfl⟩
      rw [h2]
      exact h1
   ·cases h
  ·cases h
 cases dst with
 | none=>
  cases op<;>first
   | (simp only [cJ,aK] at h; cases h; done)
   | exact LG _ _ rfl
   | exact hhc _ _ rfl
   | skip
  simp only [cJ,aK] at h
  rw [(gT s.env _ _ _ h).1]
 | some t=>
  have ht:t≠n:=fun h=>hn (by rw [h])
  cases op<;>first
   | exact LG _ _ rfl
   | exact hhc _ _ rfl
   | (simp only [cJ,aK] at h; exact Bo ht h hs)
   | skip
  case call f args=>
   simp only [cJ] at h
   split at h
   ·simp only [Option.bind_eq_some_iff] at h
    obtain ⟨r,_,h⟩:=h
    split at h
    ·cases h
    ·cases h
     exact mc ht hs
   ·cases h
  case ej=>simp [cJ] at h
  case eO f x args=>
   simp only [cJ,aK] at h
   (repeat' split at h)<;>try (cases h; done)
   rotate_left
   ·simp only [Option.bind_eq_some_iff] at h
    obtain ⟨r,_,h⟩:=h
    split at h<;>cases h
    exact mc ht hs
   simp only [Option.map_eq_some_iff] at h
   obtain ⟨r,_,rfl⟩:=h
   have h1:=mc ht hs
   rw [← h1] at hs
   rw [← h1]
   exact Bn hs
  case append el sz b x y=>
   simp only [cJ,aK] at h
   exact xj ht h hs
  all_goals
   simp only [cJ,aK] at h
   (repeat' split at h)<;>first
    | cases h; done
    | (cases h; exact iF ht hs)
theorem zf {i:aN} {s s':St} (h:bD call i s=some s') {n:Nat} (hn:i.dst≠some n) (hs:(s'.env n).eW=true) :s.env n=s'.env n:=by
 have hv:fU call i s=some s'→s.env n=s'.env n:=by
  intro h
  obtain ⟨d,v,hd,_,rfl⟩:=et h
  exact dx (fun e=>hn (by rw [hd,e])) hs
 unfold bD at h
 split at h
 ·exact ze h hn hs
 ·split at h
  ·split at h
   ·rw [(gT s.env _ _ _ h).1]
   ·cases h
  ·exact hv h
theorem nT {n:Nat} : ∀(l:List aN) (s s':St),mV call l s=some s'→(∀i∈l,i.dst≠some n)→(s'.env n).eW=true→s.env n=s'.env n
 | [],s,s',h,_,_=>by
  simp only [mV,Option.some.injEq] at h
  rw [h]
 | i::l,s,s',h,hd,hs=>by
  simp only [mV] at h
  cases h1:bD call i s with
  | none=>simp [h1] at h
  | some s1=>
   simp only [h1,Option.bind_some] at h
   have ih:=nT l s1 s' h (fun j hj=>hd j (List.mem_cons.2 (.inr hj))) hs
   rw [← ih] at hs ⊢
   exact zf h1 (hd i (List.mem_cons.2 (.inl rfl))) hs
theorem jy {s:St} {p:Nat×Nat} (h:iN s p=true) :(s.env p.1).eW=true∧(s.env p.2).eW=true:=by
 unfold iN at h
 split at h
 ·rename_i he
  split at h
  ·rename_i h1
   rw [← he,h1]
   exact ⟨rfl,rfl⟩
  ·cases h
 split at h
 all_goals first
  | (cases h; done)
  | (rename_i h1 h2; rw [h1,h2]; exact ⟨rfl,rfl⟩)
theorem tn {acc:List Nat} {j:Nat} : ∀(p:List Nat) (m:Nat),(pP acc p m).testBit j=true→m.testBit j=true∨ ∃k∈p,j=k∨(acc.getD k 0).testBit j=true
 | [],m,h=> .inl h
 | k::p,m,h=>by
  simp only [pP] at h
  rcases tn p _ h with h | ⟨k',hk,h⟩
  ·simp only [Nat.testBit_or,Bool.or_eq_true] at h
   rcases h with (h | h) | h
   ·exact .inl h
   ·refine .inr ⟨k,by simp,.inl ?_⟩
    rw [Nat.one_shiftLeft,Nat.testBit_two_pow] at h
    have :=of_decide_eq_true h
    omega
   ·exact .inr ⟨k,by simp,.inr h⟩
  ·exact .inr ⟨k',by simp [hk],h⟩
theorem GJ {all:List (List Nat)} {R:Nat→Nat→Prop} (h1: ∀i k,k∈all.getD i []→R i k) (h2: ∀i k j,k∈all.getD i []→R k j→R i j) :
  ∀(l d:List (List Nat)) (acc:List Nat),all=d++l→acc.length=d.length→(∀i j,(acc.getD i 0).testBit j=true→R i j)→ ∀i j,((FN l acc).getD i 0).testBit j=true→R i j
 | [],d,acc,_,_,Jr,i,j,h=>Jr i j h
 | p::l,d,acc,iU,hlen,Jr,i,j,h=>by
  simp only [FN] at h
  refine GJ h1 h2 l (d++[p]) (acc++[pP acc p 0]) (by rw [iU]; simp) (by simp [hlen]) (fun i j h=> ?_) i j h
  rw [List.getD_eq_getElem?_getD] at h
  by_cases hi:i < acc.length
  ·rw [List.getElem?_append_left hi,← List.getD_eq_getElem?_getD] at h
   exact Jr i j h
  ·by_cases he:i=acc.length
   ·subst he
    simp only [List.getElem?_concat_length,Option.getD_some] at h
    have hp:all.getD acc.length []=p:=by
     rw [iU,List.getD_eq_getElem?_getD,hlen,List.getElem?_append_right (Nat.le_refl _)]
     simp
    rcases tn p 0 h with h | ⟨k,hk,h⟩
    ·simp at h
    ·rcases h with rfl | h
     ·exact h1 _ _ (by rw [hp]; exact hk)
     ·exact h2 _ k _ (by rw [hp]; exact hk) (Jr k j h)
   ·have :(acc++[pP acc p 0])[i]? =none:=List.getElem?_eq_none (by simp; omega)
    rw [this] at h
    simp at h
theorem pe {M:List aN} {c:List Nat} {n:Nat} : ∀(l:List aN) (k:Nat),(oD M c n k l).length=l.length
 | [],k=>rfl
 | x::l,k=>by simp [oD,pe l (k+1)]
theorem zg {M:List aN} {c:List Nat} {n:Nat} : ∀(l:List aN) (k i:Nat) (y:aN),(oD M c n k l)[i]? =some y→ ∃x,l[i]? =some x∧((y=x∧x.g≠none)∨(x.g=none∧ ∃b u,y={x with uu:=b,up:=u}))
 | [],k,i,y,h=>by simp [oD] at h
 | x::l,k,0,y,h=>by
  simp only [oD,List.getElem?_cons_zero,Option.some.injEq] at h
  refine ⟨x,by simp,?_⟩
  cases hm:(x.g.isNone&&(!x.uu&&x.op.Rd)) with
  | true=>
   rw [hm] at h
   simp only [cond_true,aN.rR] at h
   cases hx:x.g with
   | none=>
    rw [hx] at h
    exact .inr ⟨rfl,true,[],h.symm⟩
   | some tw=>
    rw [hx] at h
    exact .inl ⟨h.symm,by simp⟩
  | false=>
  rw [hm] at h
  simp only [cond_false] at h
  cases hc:(x.g.isNone&&((x.op.makes&&(ordered c n k||(x.op.Re||(x.op.isM||M.any (Cf x)))))||x.op.wC)) with
  | false=>
   rw [hc] at h
   simp only [cond_false] at h
   cases hc2:(x.g.isNone&&x.op.free) with
   | false=>
    rw [hc2] at h
    simp only [cond_false,aN.rR] at h
    cases hx:x.g with
    | none=>
     rw [hx] at h
     exact .inr ⟨rfl,true,[],h.symm⟩
    | some tw=>
     rw [hx] at h
     exact .inl ⟨h.symm,by simp⟩
   | true=>
    rw [hc2] at h
    simp only [Bool.and_eq_true] at hc2
    exact .inr ⟨by simpa using hc2.1,false,_,h.symm⟩
  | true=>
   rw [hc] at h
   simp only [Bool.and_eq_true] at hc
   exact .inr ⟨by simpa using hc.1,false,x.up,h.symm⟩
 | x::l,k,i+1,y,h=>by
  simp only [oD,List.getElem?_cons_succ] at h
  simpa using zg l (k+1) i y h
def nk (l:List aN) (ks:List Nat) :List aN:=ks.filterMap (l[·]?)
theorem je {l:List aN} {k:Nat} {i:aN} (h:l[k]? =some i) (ks:List Nat) :nk l (k::ks)=i::nk l ks:=by
 simp [nk,h]
theorem ra {l:List aN} {n lim:Nat} {pre:List Nat} (h:kv l n lim pre=true) {k:Nat} {i:aN} (hk:l[k]? =some i) (aiY:lim≤k) (EC:k ∉ pre) :i.dst≠some n:=by
 have dZ:k < l.length:=(List.getElem?_eq_some_iff.1 hk).1
 have :=List.all_eq_true.1 h k (List.mem_range.2 dZ)
 simp only [hk,Bool.or_eq_true,bne_iff_ne,decide_eq_true_eq,List.contains_eq_mem] at this
 rcases this with (h | h) | h
 ·exact h
 ·omega
 ·exact absurd h EC
theorem GK {l:List aN} (h:Lm l=true) {k j:Nat} {x y:aN} (hk:l[k]? =some y) (hf:y.f=true) (hj:l[j]? =some x) :x.op.wC=false:=by
 simp only [Lm,Bool.and_eq_true,Bool.or_eq_true] at h
 rcases h.1 with h | h
 ·simpa using List.all_eq_true.1 h x (List.mem_of_getElem? hj)
 ·have :=List.all_eq_true.1 h y (List.mem_of_getElem? hk)
  rw [hf] at this
  cases this
theorem zh {l:List aN} (h:Lm l=true) {k:Nat} {x:aN} (hk:l[k]? =some x) (hf:x.f=true) : ∃d,x.dst=some d∧d < 49999∧ ∀j y,j≠k→l[j]? =some y→y.dst≠some d:=by
 have dZ:k < l.length:=(List.getElem?_eq_some_iff.1 hk).1
 simp only [Lm,Bool.and_eq_true] at h
 have :=List.all_eq_true.1 h.2 k (List.mem_range.2 dZ)
 simp only [hk,hf,Bool.not_true,Bool.false_or,Bool.and_eq_true] at this
 cases hd:x.dst with
 | none=>simp [hd] at this
 | some d=>
  simp only [hd,Bool.and_eq_true,decide_eq_true_eq] at this
  refine ⟨d,rfl,this.2.1,fun j y hj hy=> ?_⟩
  have h2:=List.all_eq_true.1 this.2.2 j (List.mem_range.2 (List.getElem?_eq_some_iff.1 hy).1)
  simp only [hy,Bool.or_eq_true,bne_iff_ne,ne_eq] at h2
  rcases h2 with h2 | h2
  ·exact absurd (Nat.eq_of_beq_eq_true h2) hj
  ·exact h2
def rf (l:List aN) (ks:List Nat) (s:St) :Prop:= ∀k∈ks,∀y,l[k]? =some y→y.f=true→ ∀d,y.dst=some d→s.No d
theorem rf.step {l:List aN} (F7:Lm l=true) {ks:List Nat} {s s1:St} (h:rf l ks s) {j:Nat} {x:aN} (hj:l[j]? =some x) (hjk:j ∉ ks) (hs:bD call x s=some s1) :rf l ks s1:=fun k hk y hy hf d hd=>by
 obtain ⟨d',ie,dZ,hu⟩:=zh F7 hy hf
 rw [hd] at ie
 cases ie
 exact GB (h k hk y hy hf d hd) (by omega) (GK F7 hy hf hj) (hu j x (fun e=>hjk (e ▸ hk)) hj) hs
theorem GL {l:List aN} (F7:Lm l=true) {i:Nat} {pr post:List Nat} {s':St} : ∀(pre:List Nat) (s:St),rf l (pre++i::post) s→(pre++i::post).Pairwise (·< ·)→(∀k∈pre++i::post,k ∉ pr)→
  (∀j∈pre,nz l j i=true∨ ∃ps,qR l j i pr=some ps∧ ∀p∈ps,iN s' p=true)→mV call (nk l (pre++i::post)) s=some s'→mV call (nk l (i::(pre++post))) s=some s'
 | [],s,_,_,_,_,h=>h
 | j::pre,s,hF,hs,RS,fD,h=>by
  have hj:=fD j (List.mem_cons.2 (.inl rfl))
  have Qx: ∃x y,l[j]? =some x∧l[i]? =some y:=by
   cases hx:l[j]? with
   | none=>rcases hj with h | ⟨p,h,_⟩<;>simp [nz,qR,hx] at h
   | some x=>
    cases hy:l[i]? with
    | none=>rcases hj with h | ⟨p,h,_⟩<;>simp [nz,qR,hx,hy] at h
    | some y=>exact ⟨x,y,rfl,rfl⟩
  obtain ⟨x,y,hx,hy⟩:=Qx
  have bU:=h
  rw [List.cons_append,je hx] at h
  simp only [mV] at h
  cases h1:bD call x s with
  | none=>simp [h1] at h
  | some s1=>
   simp only [h1,Option.bind_some] at h
   have dp:(pre++i::post).Pairwise (·< ·):=(List.pairwise_cons.1 (by simpa using hs)).2
   have RT:j ∉ pre++i::post:=fun hm=>Nat.lt_irrefl _ ((List.pairwise_cons.1 (by simpa using hs)).1 j hm)
   have hF1:rf l (pre++i::post) s1:=rf.step F7 (fun k hk=>hF k (List.mem_cons.2 (.inr hk))) hx RT h1
   have ih:=GL F7 pre s1 hF1 dp (fun k hk=>RS k (List.mem_cons.2 (.inr hk))) (fun k hk=>fD k (List.mem_cons.2 (.inr hk))) h
   rw [je hy] at ih
   simp only [mV] at ih
   cases h2:bD call y s1 with
   | none=>simp [h2] at ih
   | some s2=>
    simp only [h2,Option.bind_some] at ih
    have hsw: ∃j0,bD call y s=some j0∧bD call x j0=some s2:=by
     rcases hj with hc | ⟨p,hp,pf⟩
     ·simp only [nz,hx,hy] at hc
      exact swap_comm hc (fun hf d hd=>hF j (by simp) x hx hf d hd) (fun hf d hd=>hF i (by simp) y hy hf d hd) h1 h2
     ·simp only [qR,hx,hy] at hp
      have hge: ∀k∈j::pre++i::post,j≤k:=by
       intro k hk
       rcases List.mem_cons.1 hk with rfl | hk
       ·exact Nat.le_refl _
       ·exact Nat.le_of_lt ((List.pairwise_cons.1 (by simpa using hs)).1 k hk)
      have mY: ∀z∈nk l (j::pre++i::post),∃k∈j::pre++i::post,l[k]? =some z:=by
       intro z hz
       obtain ⟨k,hk,RU⟩:=List.mem_filterMap.1 hz
       exact ⟨k,hk,RU⟩
      have first: ∀n,(s'.env n).eW=true→kv l n j []=true→s.env n=s'.env n:=fun n so fi=>nT _ _ _ bU (n:=n) (fun z hz=>by
       obtain ⟨k,hk,RU⟩:=mY z hz
       exact ra fi RU (hge k hk) (by simp)) so
      have second: ∀n,(s'.env n).eW=true→kv l n 0 pr=true→s.env n=s'.env n:=fun n so fi=>nT _ _ _ bU (n:=n) (fun z hz=>by
       obtain ⟨k,hk,RU⟩:=mY z hz
       exact ra fi RU (Nat.zero_le _) (RS k hk)) so
      have same: ∀n,s.env n=s'.env n→iN s' (n,n)=true→ ∃u,s.env n= .d u:=fun n e fD=>by
       simp only [iN,if_true,← e] at fD
       split at fD
       ·rename_i u hu
        exact ⟨u,hu⟩
       ·cases fD
      split at hp
      ·rename_i n m hd
       split at hp
       ·rename_i fi
        cases hp
        simp only [Bool.and_eq_true] at fi
        have pf:=pf (n,m) (by simp)
        obtain ⟨so1,so2⟩:=jy pf
        refine GC hd ?_ h1 h2
        rw [← pf]
        simp only [iN,first n so1 fi.1,second m so2 fi.2]
       ·cases hp
      ·split at hp
       ·rename_i n m hd
        split at hp
        ·rename_i fi
         cases hp
         simp only [Bool.and_eq_true] at fi
         have pf:=pf (n,m) (by simp)
         obtain ⟨so1,so2⟩:=jy pf
         have hyF:y.f=true:=by
          unfold IN at hd
          split at hd
          ·split at hd
           ·rename_i ha
            simp only [Bool.and_eq_true] at ha
            exact ha.2.2
           ·cases hd
          ·cases hd
         refine Jo hd ?_ (fun d hd=>hF i (by simp) y hy hyF d hd) h1 h2
         rw [← pf]
         simp only [iN,first n so1 fi.1,second m so2 fi.2]
        ·cases hp
       split at hp
       ·rename_i fi
        cases hp
        simp only [Bool.and_eq_true,List.all_eq_true] at fi
        refine Jq fi.1 (fun n hn=> ?_) h1 h2
        have fD:=pf (n,n) (List.mem_map.2 ⟨n,hn,rfl⟩)
        exact same n (first n (jy fD).1 (fi.2 n hn)) fD
       ·split at hp
        ·rename_i fi
         cases hp
         simp only [Bool.and_eq_true,List.all_eq_true] at fi
         refine Jp fi.1 (fun n hn=> ?_) h1 h2
         have fD:=pf (n,n) (List.mem_map.2 ⟨n,hn,rfl⟩)
         exact same n (second n (jy fD).1 (fi.2 n hn)) fD
        ·cases hp
    obtain ⟨j0,g1,g2⟩:=hsw
    rw [je hy,List.cons_append,je hx]
    simp only [mV,g1,Option.bind_some,g2]
    exact ih
end
end Go.Proofs.YtglbgfcegifeeaaGreat.Vm
