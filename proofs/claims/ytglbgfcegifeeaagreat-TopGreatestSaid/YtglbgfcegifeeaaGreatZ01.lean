/- What it means that a value of the pure machine stands for one of the model's; what a change of the world leaves of it. No condition. -/
import Derived.Test.YtglbgfcegifeeaaGreatZ00
import Derived.ArgAppend
set_option linter.unusedVariables false
set_option linter.unusedSimpArgs false
set_option linter.unusedSectionVars false
namespace Go.Proofs.YtglbgfcegifeeaaGreat.Vm
open Go Go.RowKit
mutual
def aW (w:World) (S:Nat→Nat→Prop) :DV→Value→Prop
 | .int k n,v=>v= .int k n
 | .bool b,v=>v= .bool b
 | .af,v=>v= .slice none 0 0
 | .sl k sz es,v=> ∃(a:Addr) (b o cap:Nat),v= .slice (some a) es.length cap∧(es.length≠0→a=⟨b,o,none⟩)∧es.length≤cap∧(k= .tight→cap=es.length)∧gO w S es sz b o
 | .ag k sz es,v=>(v= .slice none 0 0∧es=[])∨ ∃(a:Addr) (b o cap:Nat),v= .slice (some a) es.length cap∧(es.length≠0→a=⟨b,o,none⟩)∧es.length≤cap∧(k=true→cap=es.length)∧gO w S es sz b o
 | .aI e off,v=> ∃b o,v= .pointer (some ⟨b,o+off,none⟩)∧iS w S e b o
 | .bn,v=>v= .pointer none
 | .func f cs,v=> ∃vs:List Value,v= .func (.func f) #[] vs.toArray∧cg w S cs vs
 | .fN,v=>v= .nilFunc
 | .agg cs,v=> ∃vs:List Value,v= .agg vs.toArray∧cg w S cs vs
 | .tuple cs,v=> ∃vs:List Value,v= .tuple vs.toArray∧cg w S cs vs
 | .mv _ _ _,_=>False
 | .gi _ _,_=>False
def iS (w:World) (S:Nat→Nat→Prop) :aw→Nat→Nat→Prop
 | [],_,_=>True
 | c::cs,b,o=>(S b o∧ ∃u,w.cell? ⟨b,o,none⟩=some u∧aW w S c u)∧iS w S cs b (o+1)
def gO (w:World) (S:Nat→Nat→Prop) :aj→Nat→Nat→Nat→Prop
 | [],_,_,_=>True
 | e::es,sz,b,o=>e.length=sz∧iS w S e b o∧gO w S es sz b (o+sz)
def cg (w:World) (S:Nat→Nat→Prop) :aw→List Value→Prop
 | [],vs=>vs=[]
 | c::cs,vs=> ∃u us,vs=u::us∧aW w S c u∧cg w S cs us
end
mutual
def aE (w:World) (S:Nat→Nat→Prop) (ρ:Nat→Nat×Nat) :AV→Value→Prop
 | .d x,v=>aW w S x v
 | .ah s sz off n,v=> ∃a cap,v= .slice (some a) n cap∧(n≠0∨off=0→a=⟨(ρ s).1,off * sz,none⟩)∧(off=0→cap=(ρ s).2)∧n≤cap∧a.spot=none
 | .ptr s sz i off,v=>v= .pointer (some ⟨(ρ s).1,i * sz+off,none⟩)
 | .mA s sz i off n,v=> ∃a cap,v= .slice (some a) n cap∧(n≠0→a=⟨(ρ s).1,i * sz+off,none⟩)∧n≤cap
 | .func f cs,v=> ∃vs:List Value,v= .func (.func f) #[] vs.toArray∧aS w S ρ cs vs
 | .agg cs,v=> ∃vs:List Value,v= .agg vs.toArray∧aS w S ρ cs vs
 | .tuple cs,v=> ∃vs:List Value,v= .tuple vs.toArray∧aS w S ρ cs vs
 | .w _ _ _,_=>True
 | .undef,_=>True
def aS (w:World) (S:Nat→Nat→Prop) (ρ:Nat→Nat×Nat) :List AV→List Value→Prop
 | [],vs=>vs=[]
 | c::cs,vs=> ∃u us,vs=u::us∧aE w S ρ c u∧aS w S ρ cs us
end
structure Kept (w w':World) (S S':Nat→Nat→Prop) :Prop where
 sub: ∀b o,S b o→S' b o
 cell: ∀b o,S b o→ ∀u,w.cell? ⟨b,o,none⟩=some u→w'.cell? ⟨b,o,none⟩=some u
mutual
theorem aW.kept {w w':World} {S S':Nat→Nat→Prop} (h:Kept w w' S S') : ∀(x:DV) (v:Value),aW w S x v→aW w' S' x v
 | .mv _ _ _,_,hx=>by simp only [aW] at hx
 | .gi _ _,_,hx=>by simp only [aW] at hx
 | .int _ _,_,hx=>by simpa only [aW] using hx
 | .bool _,_,hx=>by simpa only [aW] using hx
 | .af,_,hx=>by simpa only [aW] using hx
 | .bn,_,hx=>by simpa only [aW] using hx
 | .fN,_,hx=>by simpa only [aW] using hx
 | .sl k sz es,v,hx=>by
  simp only [aW] at hx ⊢
  obtain ⟨a,b,o,cap,h1,h0,h2,h3,h4⟩:=hx
  exact ⟨a,b,o,cap,h1,h0,h2,h3,gO.kept h es sz b o h4⟩
 | .ag k sz es,v,hx=>by
  simp only [aW] at hx ⊢
  rcases hx with hx | ⟨a,b,o,cap,h1,h0,h2,h3,h4⟩
  ·exact .inl hx
  ·exact .inr ⟨a,b,o,cap,h1,h0,h2,h3,gO.kept h es sz b o h4⟩
 | .aI e off,v,hx=>by
  simp only [aW] at hx ⊢
  obtain ⟨b,o,h1,h2⟩:=hx
  exact ⟨b,o,h1,iS.kept h e b o h2⟩
 | .func f cs,v,hx=>by
  simp only [aW] at hx ⊢
  obtain ⟨vs,h1,h2⟩:=hx
  exact ⟨vs,h1,cg.kept h cs vs h2⟩
 | .agg cs,v,hx=>by
  simp only [aW] at hx ⊢
  obtain ⟨vs,h1,h2⟩:=hx
  exact ⟨vs,h1,cg.kept h cs vs h2⟩
 | .tuple cs,v,hx=>by
  simp only [aW] at hx ⊢
  obtain ⟨vs,h1,h2⟩:=hx
  exact ⟨vs,h1,cg.kept h cs vs h2⟩
theorem iS.kept {w w':World} {S S':Nat→Nat→Prop} (h:Kept w w' S S') : ∀(cs:aw) (b o:Nat),iS w S cs b o→iS w' S' cs b o
 | [],_,_,_=>by simp only [iS]
 | c::cs,b,o,hx=>by
  simp only [iS] at hx ⊢
  obtain ⟨⟨h1,u,h2,h3⟩,h4⟩:=hx
  exact ⟨⟨h.sub _ _ h1,u,h.cell _ _ h1 u h2,aW.kept h c u h3⟩,iS.kept h cs b (o+1) h4⟩
theorem gO.kept {w w':World} {S S':Nat→Nat→Prop} (h:Kept w w' S S') : ∀(es:aj) (sz b o:Nat),gO w S es sz b o→gO w' S' es sz b o
 | [],_,_,_,_=>by simp only [gO]
 | e::es,sz,b,o,hx=>by
  simp only [gO] at hx ⊢
  obtain ⟨h1,h2,h3⟩:=hx
  exact ⟨h1,iS.kept h e b o h2,gO.kept h es sz b (o+sz) h3⟩
theorem cg.kept {w w':World} {S S':Nat→Nat→Prop} (h:Kept w w' S S') : ∀(cs:aw) (vs:List Value),cg w S cs vs→cg w' S' cs vs
 | [],vs,hx=>by simpa only [cg] using hx
 | c::cs,vs,hx=>by
  simp only [cg] at hx ⊢
  obtain ⟨u,us,h1,h2,h3⟩:=hx
  exact ⟨u,us,h1,aW.kept h c u h2,cg.kept h cs us h3⟩
end
mutual
theorem aE.kept {w w':World} {S S':Nat→Nat→Prop} {ρ:Nat→Nat×Nat} (h:Kept w w' S S') : ∀(x:AV) (v:Value),aE w S ρ x v→aE w' S' ρ x v
 | .d x,v,hx=>by simp only [aE] at hx ⊢; exact aW.kept h x v hx
 | .ah _ _ _ _,_,hx=>by simpa only [aE] using hx
 | .ptr _ _ _ _,_,hx=>by simpa only [aE] using hx
 | .mA _ _ _ _ _,_,hx=>by simpa only [aE] using hx
 | .w _ _ _,_,_=>by simp only [aE]
 | .undef,_,_=>by simp only [aE]
 | .func f cs,v,hx=>by
  simp only [aE] at hx ⊢
  obtain ⟨vs,h1,h2⟩:=hx
  exact ⟨vs,h1,aS.kept h cs vs h2⟩
 | .agg cs,v,hx=>by
  simp only [aE] at hx ⊢
  obtain ⟨vs,h1,h2⟩:=hx
  exact ⟨vs,h1,aS.kept h cs vs h2⟩
 | .tuple cs,v,hx=>by
  simp only [aE] at hx ⊢
  obtain ⟨vs,h1,h2⟩:=hx
  exact ⟨vs,h1,aS.kept h cs vs h2⟩
theorem aS.kept {w w':World} {S S':Nat→Nat→Prop} {ρ:Nat→Nat×Nat} (h:Kept w w' S S') : ∀(cs:List AV) (vs:List Value),aS w S ρ cs vs→aS w' S' ρ cs vs
 | [],vs,hx=>by simpa only [aS] using hx
 | c::cs,vs,hx=>by
  simp only [aS] at hx ⊢
  obtain ⟨u,us,h1,h2,h3⟩:=hx
  exact ⟨u,us,h1,aE.kept h c u h2,aS.kept h cs us h3⟩
end
mutual
theorem aE.site {w:World} {S:Nat→Nat→Prop} {ρ ρ':Nat→Nat×Nat} (s:Nat) (hρ: ∀n,n≠s→ρ' n=ρ n) : ∀(x:AV) (v:Value),x.has s=false→aE w S ρ x v→aE w S ρ' x v
 | .d x,v,_,hx=>by simpa only [aE] using hx
 | .ah s' _ _ _,_,hs,hx=>by
  simp only [AV.has,beq_eq_false_iff_ne] at hs
  simp only [aE] at hx ⊢
  rw [hρ s' hs]; exact hx
 | .ptr s' _ _ _,_,hs,hx=>by
  simp only [AV.has,beq_eq_false_iff_ne] at hs
  simp only [aE] at hx ⊢
  rw [hρ s' hs]; exact hx
 | .mA s' _ _ _ _,_,hs,hx=>by
  simp only [AV.has,beq_eq_false_iff_ne] at hs
  simp only [aE] at hx ⊢
  rw [hρ s' hs]; exact hx
 | .w _ _ _,_,_,_=>by simp only [aE]
 | .undef,_,_,_=>by simp only [aE]
 | .func f cs,v,hs,hx=>by
  simp only [AV.has] at hs
  simp only [aE] at hx ⊢
  obtain ⟨vs,h1,h2⟩:=hx
  exact ⟨vs,h1,aS.site s hρ cs vs hs h2⟩
 | .agg cs,v,hs,hx=>by
  simp only [AV.has] at hs
  simp only [aE] at hx ⊢
  obtain ⟨vs,h1,h2⟩:=hx
  exact ⟨vs,h1,aS.site s hρ cs vs hs h2⟩
 | .tuple cs,v,hs,hx=>by
  simp only [AV.has] at hs
  simp only [aE] at hx ⊢
  obtain ⟨vs,h1,h2⟩:=hx
  exact ⟨vs,h1,aS.site s hρ cs vs hs h2⟩
theorem aS.site {w:World} {S:Nat→Nat→Prop} {ρ ρ':Nat→Nat×Nat} (s:Nat) (hρ: ∀n,n≠s→ρ' n=ρ n) : ∀(cs:List AV) (vs:List Value),eJ s cs=false→aS w S ρ cs vs→aS w S ρ' cs vs
 | [],vs,_,hx=>by simpa only [aS] using hx
 | c::cs,vs,hs,hx=>by
  simp only [eJ,Bool.or_eq_false_iff] at hs
  simp only [aS] at hx ⊢
  obtain ⟨u,us,h1,h2,h3⟩:=hx
  exact ⟨u,us,h1,aE.site s hρ c u hs.1 h2,aS.site s hρ cs us hs.2 h3⟩
end
theorem aE.kill {w:World} {S:Nat→Nat→Prop} {ρ ρ':Nat→Nat×Nat} (s:Nat) (hρ: ∀n,n≠s→ρ' n=ρ n) (x:AV) (v:Value) (h:aE w S ρ x v) :aE w S ρ' (x.kill s) v:=by
 unfold AV.kill
 cases hs:x.has s
 ·exact aE.site s hρ x v hs h
 ·simp only [if_true,aE]
theorem cg.CH {w:World} {S:Nat→Nat→Prop} {ρ:Nat→Nat×Nat} : ∀(cs:aw) (vs:List Value),cg w S cs vs→aS w S ρ (cs.map .d) vs
 | [],vs,h=>by simpa only [cg,List.map_nil,aS] using h
 | c::cs,vs,h=>by
  simp only [cg] at h
  obtain ⟨u,us,h1,h2,h3⟩:=h
  simp only [List.map_cons,aS,aE]
  exact ⟨u,us,h1,h2,cg.CH cs us h3⟩
theorem aS.dH {w:World} {S:Nat→Nat→Prop} {ρ:Nat→Nat×Nat} : ∀(cs:List AV) (ds:aw) (vs:List Value),dH cs=some ds→aS w S ρ cs vs→cg w S ds vs
 | [],ds,vs,hd,h=>by
  simp only [Vm.dH,Option.some.injEq] at hd
  subst hd
  simpa only [aS,cg] using h
 | .d x::cs,ds,vs,hd,h=>by
  simp only [Vm.dH,Option.map_eq_some_iff] at hd
  obtain ⟨m,hm,rfl⟩:=hd
  simp only [aS,aE] at h
  obtain ⟨u,us,h1,h2,h3⟩:=h
  simp only [cg]
  exact ⟨u,us,h1,h2,aS.dH cs m us hm h3⟩
 | .ah _ _ _ _::_,_,_,hd,_=>by simp [Vm.dH] at hd
 | .ptr _ _ _ _::_,_,_,hd,_=>by simp [Vm.dH] at hd
 | .mA _ _ _ _ _::_,_,_,hd,_=>by simp [Vm.dH] at hd
 | .func _ _::_,_,_,hd,_=>by simp [Vm.dH] at hd
 | .agg _::_,_,_,hd,_=>by simp [Vm.dH] at hd
 | .tuple _::_,_,_,hd,_=>by simp [Vm.dH] at hd
 | .w _ _ _::_,_,_,hd,_=>by simp [Vm.dH] at hd
 | .undef::_,_,_,hd,_=>by simp [Vm.dH] at hd
theorem aS.length {w:World} {S:Nat→Nat→Prop} {ρ:Nat→Nat×Nat} : ∀(cs:List AV) (vs:List Value),aS w S ρ cs vs→vs.length=cs.length
 | [],vs,h=>by simp only [aS] at h; subst h; rfl
 | c::cs,vs,h=>by
  simp only [aS] at h
  obtain ⟨u,us,rfl,_,h3⟩:=h
  simp [aS.length cs us h3]
theorem cg.length {w:World} {S:Nat→Nat→Prop} : ∀(cs:aw) (vs:List Value),cg w S cs vs→vs.length=cs.length
 | [],vs,h=>by simp only [cg] at h; subst h; rfl
 | c::cs,vs,h=>by
  simp only [cg] at h
  obtain ⟨u,us,rfl,_,h3⟩:=h
  simp [cg.length cs us h3]
theorem aS.at {w:World} {S:Nat→Nat→Prop} {ρ:Nat→Nat×Nat} : ∀(cs:List AV) (vs:List Value),aS w S ρ cs vs→ ∀(i:Nat) (c:_),cs[i]? =some c→ ∃u,vs[i]? =some u∧aE w S ρ c u
 | [],vs,h,i,c,hc=>by simp at hc
 | c::cs,vs,h,i,c',hc=>by
  simp only [aS] at h
  obtain ⟨u,us,rfl,h2,h3⟩:=h
  cases i with
  | zero=>simp at hc; subst hc; exact ⟨u,by simp,h2⟩
  | succ i=>simp at hc ⊢; exact aS.at cs us h3 i c' hc
theorem cg.at {w:World} {S:Nat→Nat→Prop} : ∀(cs:aw) (vs:List Value),cg w S cs vs→ ∀(i:Nat) (c:_),cs[i]? =some c→ ∃u,vs[i]? =some u∧aW w S c u
 | [],vs,h,i,c,hc=>by simp at hc
 | c::cs,vs,h,i,c',hc=>by
  simp only [cg] at h
  obtain ⟨u,us,rfl,h2,h3⟩:=h
  cases i with
  | zero=>simp at hc; subst hc; exact ⟨u,by simp,h2⟩
  | succ i=>simp at hc ⊢; exact cg.at cs us h3 i c' hc
theorem aS.mk {w:World} {S:Nat→Nat→Prop} {ρ:Nat→Nat×Nat} : ∀(cs:List AV) (vs:List Value),vs.length=cs.length→(∀(i:Nat) (c:_) (u:_),cs[i]? =some c→vs[i]? =some u→aE w S ρ c u)→aS w S ρ cs vs
 | [],vs,hl,h=>by simp at hl; subst hl; simp only [aS]
 | c::cs,[],hl,h=>by simp at hl
 | c::cs,u::us,hl,h=>by
  simp only [aS]
  refine ⟨u,us,rfl,h 0 c u rfl rfl,aS.mk cs us (by simpa using hl) fun i c u h1 h2=>h (i+1) c u (by simpa using h1) (by simpa using h2)⟩
theorem cg.mk {w:World} {S:Nat→Nat→Prop} : ∀(cs:aw) (vs:List Value),vs.length=cs.length→(∀(i:Nat) (c:_) (u:_),cs[i]? =some c→vs[i]? =some u→aW w S c u)→cg w S cs vs
 | [],vs,hl,h=>by simp at hl; subst hl; simp only [cg]
 | c::cs,[],hl,h=>by simp at hl
 | c::cs,u::us,hl,h=>by
  simp only [cg]
  refine ⟨u,us,rfl,h 0 c u rfl rfl,cg.mk cs us (by simpa using hl) fun i c u h1 h2=>h (i+1) c u (by simpa using h1) (by simpa using h2)⟩
theorem iS.at {w:World} {S:Nat→Nat→Prop} : ∀(cs:aw) (b o:Nat),iS w S cs b o→ ∀(i:Nat) (c:_),cs[i]? =some c→S b (o+i)∧ ∃u,w.cell? ⟨b,o+i,none⟩=some u∧aW w S c u
 | [],b,o,h,i,c,hc=>by simp at hc
 | c::cs,b,o,h,i,c',hc=>by
  simp only [iS] at h
  obtain ⟨h1,h2⟩:=h
  cases i with
  | zero=>simp at hc; subst hc; simpa using h1
  | succ i=>
   simp at hc
   have :=iS.at cs b (o+1) h2 i c' hc
   rwa [show o+1+i=o+ (i+1) by omega] at this
theorem iS.mk {w:World} {S:Nat→Nat→Prop} : ∀(cs:aw) (b o:Nat),(∀(i:Nat) (c:_),cs[i]? =some c→S b (o+i)∧ ∃u,w.cell? ⟨b,o+i,none⟩=some u∧aW w S c u)→iS w S cs b o
 | [],b,o,h=>by simp only [iS]
 | c::cs,b,o,h=>by
  simp only [iS]
  refine ⟨by simpa using h 0 c rfl,iS.mk cs b (o+1) fun i c' hc=> ?_⟩
  have :=h (i+1) c' (by simpa using hc)
  rwa [show o+ (i+1)=o+1+i by omega] at this
theorem gO.at {w:World} {S:Nat→Nat→Prop} : ∀(es:aj) (sz b o:Nat),gO w S es sz b o→ ∀(i:Nat) (e:_),es[i]? =some e→e.length=sz∧iS w S e b (o+i * sz)
 | [],sz,b,o,h,i,e,he=>by simp at he
 | e::es,sz,b,o,h,i,e',he=>by
  simp only [gO] at h
  obtain ⟨h1,h2,h3⟩:=h
  cases i with
  | zero=>simp at he; subst he; simpa using ⟨h1,h2⟩
  | succ i=>
   simp at he
   have :=gO.at es sz b (o+sz) h3 i e' he
   rwa [show o+sz+i * sz=o+ (i+1) * sz by rw [Nat.add_mul]; omega] at this
theorem gO.mk {w:World} {S:Nat→Nat→Prop} : ∀(es:aj) (sz b o:Nat),(∀(i:Nat) (e:_),es[i]? =some e→e.length=sz∧iS w S e b (o+i * sz))→gO w S es sz b o
 | [],sz,b,o,h=>by simp only [gO]
 | e::es,sz,b,o,h=>by
  simp only [gO]
  have h0:=h 0 e rfl
  refine ⟨h0.1,by simpa using h0.2,gO.mk es sz b (o+sz) fun i e' he=> ?_⟩
  have :=h (i+1) e' (by simpa using he)
  rwa [show o+ (i+1) * sz=o+sz+i * sz by rw [Nat.add_mul]; omega] at this
theorem aW.ag {w:World} {S:Nat→Nat→Prop} {k:Bool} {sz:Nat} {es:aj} {v:Value} (h:aW w S (.ag k sz es) v) :(v= .slice none 0 0∧es=[])∨aW w S (.sl (if k then .tight else .ro) sz es) v:=by
 simp only [aW] at h ⊢
 rcases h with h | ⟨a,b,o,cap,h1,h0,h2,h3,h4⟩
 ·exact .inl h
 ·refine .inr ⟨a,b,o,cap,h1,h0,h2,fun hk=>h3 ?_,h4⟩
  cases k<;>simp_all
theorem yC {w:World} {S:Nat→Nat→Prop} {ρ:Nat→Nat×Nat} {k:Bool} {sz bd:Nat} {es:aj} {v:Value} (hz:sz=bd∨es.length=0) (h:aE w S ρ (.d (.ag k bd es)) v) :aE w S ρ (.d (.ag k sz es)) v:=by
 rcases hz with rfl | h0
 ·exact h
 ·have :=List.eq_nil_of_length_eq_zero h0
  subst this
  simp only [aE,aW,gO] at h ⊢
  exact h
theorem aW.F5 {w:World} {S:Nat→Nat→Prop} {k:Bool} {sz:Nat} {es:aj} {v:Value} {q:SK} (h:aW w S (.sl q sz es) v) (hq:k=true→q= .tight) :aW w S (.ag k sz es) v:=by
 simp only [aW] at h ⊢
 obtain ⟨a,b,o,cap,h1,h0,h2,h3,h4⟩:=h
 exact .inr ⟨a,b,o,cap,h1,h0,h2,fun hk=>h3 (hq hk),h4⟩
theorem aW.of_nil {w:World} {S:Nat→Nat→Prop} {k:Bool} {sz:Nat} {v:Value} (h:aW w S .af v) :aW w S (.ag k sz []) v:=by
 simp only [aW] at h ⊢
 exact .inl ⟨h,trivial⟩
theorem aW.one {w:World} {S:Nat→Nat→Prop} {x:DV} {v:Value} (h:aW w S x v) (h1:x.one=true) :v.oneCell'=true:=by
 cases x<;>simp only [aW] at h<;>simp only [DV.one,Bool.false_eq_true] at h1
 all_goals first
  | (subst h; rfl)
  | (obtain ⟨a,b,o,cap,rfl,_⟩:=h; rfl)
  | (rcases h with ⟨rfl,_⟩ | ⟨a,b,o,cap,rfl,_⟩<;>rfl)
  | (obtain ⟨b,o,rfl,_⟩:=h; rfl)
  | (obtain ⟨vs,rfl,_⟩:=h; rfl)
theorem aE.one {w:World} {S:Nat→Nat→Prop} {ρ:Nat→Nat×Nat} {x:AV} {v:Value} (h:aE w S ρ x v) (h1:x.one=true) :v.oneCell'=true:=by
 cases x<;>simp only [aE] at h<;>simp only [AV.one,Bool.false_eq_true] at h1
 all_goals first
  | exact aW.one h h1
  | (subst h; rfl)
  | (obtain ⟨a,cap,rfl,_⟩:=h; rfl)
  | (obtain ⟨vs,rfl,_⟩:=h; rfl)
theorem aE.cells {w:World} {S:Nat→Nat→Prop} {ρ:Nat→Nat×Nat} {x:AV} {v:Value} (h:aE w S ρ x v) (h1:x.cells.all AV.one=true) :aS w S ρ x.cells v.cells.toList:=by
 cases x with
 | d x=>
  cases x with
  | agg cs=>
   simp only [aE,aW] at h
   obtain ⟨vs,rfl,h⟩:=h
   simpa only [AV.cells,Value.cells] using cg.CH cs vs h
  | _=>
   simp only [AV.cells,List.all_cons,List.all_nil,Bool.and_true] at h1 ⊢
   have ho:=aE.one h h1
   simp only [aS]
   refine ⟨v,[],?_,h,rfl⟩
   cases v<;>simp_all [Value.cells,Value.oneCell']
 | agg cs=>
  simp only [aE] at h
  obtain ⟨vs,rfl,h⟩:=h
  simpa only [AV.cells,Value.cells] using h
 | w=>simp [AV.cells,AV.one] at h1
 | undef=>simp [AV.cells,AV.one] at h1
 | tuple=>simp [AV.cells,AV.one] at h1
 | _=>
  simp only [AV.cells,List.all_cons,List.all_nil,Bool.and_true] at h1 ⊢
  have ho:=aE.one h h1
  simp only [aS]
  refine ⟨v,[],?_,h,rfl⟩
  cases v<;>simp_all [Value.cells,Value.oneCell']
structure dw where
 w:World
 gz:Nat→Prop
 lt: ∀k,gz k→k < w.heap.size
 CI:Nat→Nat×Nat
def dw.all (w:World) :dw:=⟨w,fun k=>k < w.heap.size,fun _ h=>h,fun _=>(0,0)⟩
def dw.Lp (w:World) (g:Nat) :dw:=⟨w,fun k=>k < w.heap.size∧k≠g,fun _ h=>h.1,fun _=>(0,0)⟩
structure bJ (gz:Nat→Prop) (w w':World) :Prop where
 os:w'.os=w.os
 tape:w'.tape=w.tape
 output:w'.output=w.output
 size:w.heap.size≤w'.heap.size
 block: ∀k,gz k→w'.heap[k]? =w.heap[k]?
theorem bJ.refl (gz:Nat→Prop) (w:World) :bJ gz w w:=⟨rfl,rfl,rfl,Nat.le_refl _,fun _ _=>rfl⟩
theorem bJ.trans {gz:Nat→Prop} {a b c:World} (h:bJ gz a b) (k:bJ gz b c) :bJ gz a c:=
 ⟨k.os.trans h.os,k.tape.trans h.tape,k.output.trans h.output,Nat.le_trans h.size k.size,fun i hi=>(k.block i hi).trans (h.block i hi)⟩
theorem bJ.mono {gz Rn:Nat→Prop} {w w':World} (h:bJ gz w w') (ho: ∀k,Rn k→gz k) :bJ Rn w w':=
 ⟨h.os,h.tape,h.output,h.size,fun k hk=>h.block k (ho k hk)⟩
theorem _root_.Go.RowKit.Below.Ro {B:Nat} {gz:Nat→Prop} {w w':World} (h:Below B w w') (ho: ∀k,gz k→k < B) :bJ gz w w':=
 ⟨h.os,h.tape,h.output,h.size,fun k hk=>h.block k (ho k hk)⟩
theorem bJ.below {B:Nat} {w w':World} (h:bJ (fun k=>k < B) w w') :Below B w w':=⟨h.os,h.tape,h.output,h.size,h.block⟩
structure oS (B:Nat→Prop) (w:World) (S:Nat→Nat→Prop) (blk cap:Nat) (el sz n:Nat) (R:Nat→Nat→Value→Prop) :Prop where
 base: ¬ B blk
 here: ∃cur,w.heap[blk]? =some (.cells cur el (0,0))∧cur.size=cap * sz∧ ∀i j,i < n→j < sz→ ∃u,cur[i * sz+j]? =some u∧R i j u
 fits:n≤cap
 len:cap≤maxLen
 apart: ∀o,¬ S blk o
def bO (B:Nat→Prop) (w:World) (S:Nat→Nat→Prop) (ρ:Nat→Nat×Nat) (s:Nat) :Ob→Prop
 | .aC el sz es=>(∀e∈es,e.length=sz∧e.all DV.one=true)∧
   oS B w S (ρ s).1 (ρ s).2 el sz es.length fun i j u=> ∀e c,es[i]? =some e→e[j]? =some c→aW w S c u
 | .mix el sz es=>(∀e∈es,e.length=sz∧e.all AV.one=true)∧
   oS B w S (ρ s).1 (ρ s).2 el sz es.length fun i j u=> ∀e c,es[i]? =some e→e[j]? =some c→aE w S ρ c u
structure Inv (w0:dw) (S0:Nat→Nat→Prop) (N:Nat) (ρ:Nat→Nat×Nat) (S:Nat→Nat→Prop) (st:St) (a:Act) (w:World) :Prop where
 size:a.tmps.size=N
 defers:a.defers=[]
 env: ∀t,aE w S ρ (st.env t) (a.tmps.getD t undef)
 fV: ∀n t want v,st.env n= .w t want v→a.tmps[t]? =some (.bool want)→aE w S ρ v (a.tmps.getD n undef)
 kx: ∀n t want v,st.env n= .w t want v→a.tmps[t]? ≠some (.bool want)→a.tmps.getD n undef=undef
 aT: ∀s o,st.aT s=some o→bO w0.gz w S ρ s o
 apart: ∀s s' o o',st.aT s=some o→st.aT s'=some o'→(ρ s).1=(ρ s').1→s=s'
 live: ∀b o,S b o→b < w.heap.size
 up: ∀b o,S0 b o→S b o
 new: ∀b o,S b o→S0 b o∨ ¬ w0.gz b
 below:bJ w0.gz w0.w w
 small:N≤49997
 pins: ∀n,n % 100000=99999→ρ n=w0.CI n
theorem Inv.fresh {w0:dw} {S0:Nat→Nat→Prop} {N:Nat} {ρ:Nat→Nat×Nat} {S:Nat→Nat→Prop} {st:St} {a:Act} {w:World} (h:Inv w0 S0 N ρ S st a w) {k:Nat} (hk:w.heap.size≤k) : ¬ w0.gz k:=fun ho=>by
 have h1:=w0.lt k ho
 have h2:=h.below.size
 omega
def cF (w0:dw) (S0:Nat→Nat→Prop) (N:Nat) (st:St) (a:Act) (w:World) :Prop:= ∃ρ S,Inv w0 S0 N ρ S st a w
theorem oS.mono {B:Nat→Prop} {w w':World} {S S':Nat→Nat→Prop} {blk cap el sz n:Nat} {R R':Nat→Nat→Value→Prop} (h:oS B w S blk cap el sz n R)
  (hw:w'.heap[blk]? =w.heap[blk]?) (hS: ∀o,¬ S' blk o) (hR: ∀i j u,R i j u→R' i j u) :oS B w' S' blk cap el sz n R':=by
 obtain ⟨h1,⟨cur,h2,h3,h4⟩,h5,h6,h7⟩:=h
 refine ⟨h1,⟨cur,hw ▸ h2,h3,fun i j hi hj=> ?_⟩,h5,h6,hS⟩
 obtain ⟨u,hu,hr⟩:=h4 i j hi hj
 exact ⟨u,hu,hR i j u hr⟩
theorem oS.lt {B:Nat→Prop} {w:World} {S:Nat→Nat→Prop} {blk cap el sz n:Nat} {R:Nat→Nat→Value→Prop} (h:oS B w S blk cap el sz n R) :blk < w.heap.size:=by
 obtain ⟨cur,h2,_⟩:=h.here
 exact (Array.getElem?_eq_some_iff.1 h2).1
theorem bO.kept {B:Nat→Prop} {w w':World} {S S':Nat→Nat→Prop} {ρ:Nat→Nat×Nat} {s:Nat} {o:Ob} (hk:Kept w w' S S') (h:bO B w S ρ s o)
  (hw:w'.heap[(ρ s).1]? =w.heap[(ρ s).1]?) (hS: ∀o,¬ S' (ρ s).1 o) :bO B w' S' ρ s o:=by
 cases o with
 | aC el sz es=>exact ⟨h.1,h.2.mono hw hS fun i j u hu e c he hc=>aW.kept hk c u (hu e c he hc)⟩
 | mix el sz es=>exact ⟨h.1,h.2.mono hw hS fun i j u hu e c he hc=>aE.kept hk c u (hu e c he hc)⟩
theorem bO.lt {B:Nat→Prop} {w:World} {S:Nat→Nat→Prop} {ρ:Nat→Nat×Nat} {s:Nat} {o:Ob} (h:bO B w S ρ s o) : ¬ B (ρ s).1∧(ρ s).1 < w.heap.size∧ ∀p,¬ S (ρ s).1 p:=by
 cases o with
 | aC el sz es=>exact ⟨h.2.base,h.2.lt,h.2.apart⟩
 | mix el sz es=>exact ⟨h.2.base,h.2.lt,h.2.apart⟩
theorem ju {α β:Type} {f:α→Option β} : ∀{l:List α} {m:List β},bm f l=some m→m.length=l.length∧ ∀(i:Nat) (x:α),l[i]? =some x→ ∃y,m[i]? =some y∧f x=some y
 | [],m,h=>by simp only [bm,Option.some.injEq] at h; subst h; simp
 | x::l,m,h=>by
  simp only [bm] at h
  cases hx:f x with
  | none=>simp [hx] at h
  | some y=>
   cases hl:bm f l with
   | none=>simp [hx,hl] at h
   | some m'=>
    simp only [hx,hl,Option.some.injEq] at h
    subst h
    obtain ⟨h1,h2⟩:=ju hl
    refine ⟨by simp [h1],fun i z hz=> ?_⟩
    cases i with
    | zero=>simp at hz; subst hz; exact ⟨y,by simp,hx⟩
    | succ i=>simpa using h2 i z (by simpa using hz)
theorem lT (w:World) (S:Nat→Nat→Prop) {v:Value} {c:DV} (h:qQ v=some c) :aW w S c v∧c.one=true:=by
 unfold qQ at h
 split at h<;>first
  | (simp only [Option.some.injEq] at h; subst h; exact ⟨by simp only [aW],rfl⟩)
  | cases h
theorem iy (w:World) (S:Nat→Nat→Prop) {vs:List Value} {cs:aw} (h:bm qQ vs=some cs) :cg w S cs vs∧cs.all DV.one=true:=by
 obtain ⟨h1,h2⟩:=ju h
 refine ⟨cg.mk cs vs h1.symm fun i c u hc hu=> ?_,?_⟩
 ·obtain ⟨y,hy,hf⟩:=h2 i u hu
  rw [hc] at hy
  simp only [Option.some.injEq] at hy
  subst hy
  exact (lT w S hf).1
 ·rw [List.all_eq_true]
  intro c hc
  obtain ⟨i,hi,rfl⟩:=List.getElem_of_mem hc
  have hu:vs[i]? =some (vs[i]'(by omega)):=List.getElem?_eq_getElem (by omega)
  obtain ⟨y,hy,hf⟩:=h2 i _ hu
  rw [List.getElem?_eq_getElem hi] at hy
  simp only [Option.some.injEq] at hy
  subst hy
  exact (lT w S hf).2
theorem AO (w:World) (S:Nat→Nat→Prop) {v:Value} {c:DV} (h:MK v=some c) :aW w S c v:=by
 unfold MK at h
 split at h
 ·rename_i cs
  simp only [Option.map_eq_some_iff] at h
  obtain ⟨m,hm,rfl⟩:=h
  simp only [aW]
  exact ⟨cs.toList,by simp,(iy w S hm).1⟩
 ·exact (lT w S h).1
section
variable {P:Program} {w0:dw} {S0:Nat→Nat→Prop} {N:Nat} {ρ:Nat→Nat×Nat} {S:Nat→Nat→Prop} {st:St} {a:Act} {w:World}
theorem aE.strip {v:AV} {u:Value} (h:aE w S ρ v u) :aE w S ρ v.strip u:=by
 cases v<;>first | exact h | simp only [AV.strip,aE]
theorem bh (hI:Inv w0 S0 N ρ S st a w) {x:Operand} {ax:AX} (h:js x=some ax) :aE w S ρ (ax.ev st) (a.eval x):=by
 unfold js at h
 split at h
 ·simp only [Option.some.injEq] at h; subst h; exact aE.strip (hI.env _)
 ·simp only [Option.map_eq_some_iff] at h
  obtain ⟨c,hc,rfl⟩:=h
  simp only [AX.ev,aE,Act.eval]
  exact AO w S hc
 ·simp only [Option.some.injEq] at h
  subst h
  simp only [AX.ev,aE,aW,Act.eval]
  exact ⟨[],rfl,by simp only [cg]⟩
 ·cases h
theorem eU (hI:Inv w0 S0 N ρ S st a w) {xs:List Operand} {uy:List AX} (h:bm js xs=some uy) :aS w S ρ (uy.map (·.ev st)) (xs.map a.eval):=by
 obtain ⟨h1,h2⟩:=ju h
 refine aS.mk _ _ (by simp [h1]) fun i c u hc hu=> ?_
 simp only [List.getElem?_map,Option.map_eq_some_iff] at hc hu
 obtain ⟨ax,Fm,rfl⟩:=hc
 obtain ⟨x,hx,rfl⟩:=hu
 obtain ⟨y,hy,hf⟩:=h2 i x hx
 rw [Fm] at hy
 simp only [Option.some.injEq] at hy
 subst hy
 exact bh hI hf
theorem eM (b o n:Nat) :(⟨b,o,none⟩ :Addr).add n=⟨b,o+n,none⟩:=by
 unfold Addr.add; split<;>simp_all
theorem nG {t:TypeId} {g:Bool} (h:lp P t=some g) (w:World) :(isAgg t).run P w= .ok g w:=by
 unfold lp at h
 cases hu:P.underlying t with
 | none=>simp [hu] at h
 | some d=>
  simp only [hu] at h
  cases d<;>simp_all [isAgg,run_underlying hu]
theorem cY {t:TypeId} {n:Nat} (h:cG P t=some n) (w:World) :(sizeOf t).run P w= .ok n w:=by
 unfold cG at h
 simp only [Option.map_eq_some_iff] at h
 obtain ⟨i,hi,rfl⟩:=h
 simp [sizeOf,typeInfo,hi]
theorem dt {t e:TypeId} (h:oC P t=some e) :P.underlying t=some (.slice e):=by
 unfold oC at h
 split at h
 ·rename_i hu; simp only [Option.some.injEq] at h; subst h; exact hu
 ·cases h
theorem dA {t:TypeId} {g:Bool} {sz:Nat} (hg:lp P t=some g) (hs:cG P t=some sz) (b o:Nat) (w:World)
  (us:List Value) (hl:if g then us.length=sz else us.length=1) (hc: ∀(j:Nat) (u:Value),us[j]? =some u→w.cell? ⟨b,o+j,none⟩=some u) :
  (loadVar t ⟨b,o,none⟩).run P w= .ok (if g then .agg us.toArray else us.getD 0 undef) w:=by
 cases g with
 | true=>
  simp only [if_true] at hl
  subst hl
  have :=run_loadCells_list (P:=P) w ⟨b,o,none⟩ us (fun j u hu=>by rw [eM]; exact hc j u hu)
  simp [loadVar,nG hg,cY hs,this]
 | false=>
  simp only [Bool.false_eq_true,if_false] at hl
  match us,hl with
  | [u],_=>
   have h0:=hc 0 u rfl
   simp only [Nat.add_zero] at h0
   simp [loadVar,nG hg,h0]
theorem sJ (hI:Inv w0 S0 N ρ S st a w) {t:TypeId} {g:Bool} {sz:Nat} (hg:lp P t=some g) (hs:cG P t=some sz)
  {x av:AV} {v:Value} (hx:aE w S ρ x v) (h:dJ st g sz x=some av) : ∃u,(Instr.loadAt t v).run P w= .ok u w∧aE w S ρ av u:=by
 cases x with
 | d x=>
  cases x with
  | aI e off=>
   simp only [aE,aW] at hx
   obtain ⟨b,o,rfl,hc⟩:=hx
   simp only [dJ,wy] at h
   cases g with
   | true=>
    simp only [if_true] at h
    split at h
    ·rename_i hle
     simp only [Option.some.injEq] at h
     subst h
     have hex: ∀j,j < sz→ ∃u,w.cell? ⟨b,o+off+j,none⟩=some u∧ ∀c,e[off+j]? =some c→aW w S c u:=by
      intro j hj
      have dZ:off+j < e.length:=by omega
      obtain ⟨_,u,hu,hr⟩:=iS.at e b o hc (off+j) _ (List.getElem?_eq_getElem dZ)
      refine ⟨u,by rwa [Nat.add_assoc],fun c hc=> ?_⟩
      rw [List.getElem?_eq_getElem dZ] at hc
      simp only [Option.some.injEq] at hc
      subst hc; exact hr
     let us:List Value:=(List.range sz).map fun j=>if hj:j < sz then (hex j hj).choose else undef
     have gP: ∀(j:Nat) (u:Value),us[j]? =some u→w.cell? ⟨b,o+off+j,none⟩=some u∧ ∀c,e[off+j]? =some c→aW w S c u:=by
      intro j u hu
      have hj:j < sz:=by
       have :=(List.getElem?_eq_some_iff.1 hu).1
       simpa [us] using this
      simp only [us,List.getElem?_map,List.getElem?_range hj,Option.map_some,Option.some.injEq,hj,dif_pos] at hu
      subst hu
      exact (hex j hj).choose_spec
     have :=dA hg hs b (o+off) w us (by simp [us]) (fun j u hu=>(gP j u hu).1)
     refine ⟨_,by simpa [Instr.loadAt,Instr.sureAddr] using this,?_⟩
     simp only [aE,aW]
     refine ⟨us,rfl,cg.mk _ _ (by simp [us]; omega) fun i c u hc hu=>(gP i u hu).2 c ?_⟩
     rw [List.getElem?_take] at hc
     split at hc
     ·simpa using hc
     ·cases hc
    ·cases h
   | false=>
    simp only [Bool.false_eq_true,if_false,Option.map_eq_some_iff] at h
    obtain ⟨c,pV,rfl⟩:=h
    obtain ⟨_,u,hu,hr⟩:=iS.at e b o hc off c pV
    have :=dA hg hs b (o+off) w [u] (by simp) (fun j u' g7=>by
     cases j with
     | zero=>simp at g7; subst g7; simpa using hu
     | succ j=>simp at g7)
    exact ⟨u,by simpa [Instr.loadAt,Instr.sureAddr] using this,by simpa only [aE] using hr⟩
  | _=>simp [dJ] at h
 | ptr s bd i off=>
  simp only [aE] at hx
  subst hx
  simp only [dJ] at h
  cases dp:st.aT s with
  | none=>simp [dp] at h
  | some ob=>
   have fD:=hI.aT s ob dp
   cases ob with
   | aC el cO es=>
    simp only [dp] at h
    split at h
    ·rename_i heq
     subst heq
     cases he:es[i]? with
     | none=>simp [he] at h
     | some e=>
      simp only [he,Option.bind_some,wy] at h
      obtain ⟨bj,cR⟩:=fD
      obtain ⟨cur,cS,iq,cD⟩:=cR.here
      have hi:i < es.length:=(List.getElem?_eq_some_iff.1 he).1
      have jn:e.length=bd:=(bj e (List.mem_of_getElem? he)).1
      have An: ∀j c,e[j]? =some c→ ∃u,w.cell? ⟨(ρ s).1,i * bd+j,none⟩=some u∧aW w S c u:=by
       intro j c hc
       have hj:j < bd:=by rw [← jn]; exact (List.getElem?_eq_some_iff.1 hc).1
       obtain ⟨u,hu,hr⟩:=cD i j hi hj
       exact ⟨u,by simp [World.cell?,cS,hu],hr e c he hc⟩
      cases g with
      | true=>
       simp only [if_true] at h
       split at h
       ·rename_i hle
        simp only [Option.some.injEq] at h
        subst h
        have hex: ∀j,j < sz→ ∃u,w.cell? ⟨(ρ s).1,i * bd+off+j,none⟩=some u∧ ∀c,e[off+j]? =some c→aW w S c u:=by
         intro j hj
         have dZ:off+j < e.length:=by omega
         obtain ⟨u,hu,hr⟩:=An (off+j) _ (List.getElem?_eq_getElem dZ)
         refine ⟨u,by rwa [Nat.add_assoc],fun c hc=> ?_⟩
         rw [List.getElem?_eq_getElem dZ] at hc
         simp only [Option.some.injEq] at hc
         subst hc; exact hr
        let us:List Value:=(List.range sz).map fun j=>if hj:j < sz then (hex j hj).choose else undef
        have gP: ∀(j:Nat) (u:Value),us[j]? =some u→w.cell? ⟨(ρ s).1,i * bd+off+j,none⟩=some u∧ ∀c,e[off+j]? =some c→aW w S c u:=by
         intro j u hu
         have hj:j < sz:=by
          have :=(List.getElem?_eq_some_iff.1 hu).1
          simpa [us] using this
         simp only [us,List.getElem?_map,List.getElem?_range hj,Option.map_some,Option.some.injEq,hj,dif_pos] at hu
         subst hu
         exact (hex j hj).choose_spec
        have :=dA hg hs (ρ s).1 (i * bd+off) w us (by simp [us]) (fun j u hu=>(gP j u hu).1)
        refine ⟨_,by simpa [Instr.loadAt,Instr.sureAddr] using this,?_⟩
        simp only [aE,aW]
        refine ⟨us,rfl,cg.mk _ _ (by simp [us]; omega) fun k c u hc hu=>(gP k u hu).2 c ?_⟩
        rw [List.getElem?_take] at hc
        split at hc
        ·simpa using hc
        ·cases hc
       ·cases h
      | false=>
       simp only [Bool.false_eq_true,if_false,Option.map_eq_some_iff] at h
       obtain ⟨c,pV,rfl⟩:=h
       obtain ⟨u,hu,hr⟩:=An off c pV
       have :=dA hg hs (ρ s).1 (i * bd+off) w [u] (by simp) (fun j u' g7=>by
        cases j with
        | zero=>simp at g7; subst g7; simpa using hu
        | succ j=>simp at g7)
       exact ⟨u,by simpa [Instr.loadAt,Instr.sureAddr] using this,by simpa only [aE] using hr⟩
    ·cases h
   | mix el cO es=>
    simp only [dp] at h
    split at h
    ·rename_i heq
     subst heq
     cases he:es[i]? with
     | none=>simp [he] at h
     | some e=>
      simp only [he,Option.bind_some,DS] at h
      obtain ⟨bj,cR⟩:=fD
      obtain ⟨cur,cS,iq,cD⟩:=cR.here
      have hi:i < es.length:=(List.getElem?_eq_some_iff.1 he).1
      have jn:e.length=bd:=(bj e (List.mem_of_getElem? he)).1
      have An: ∀j c,e[j]? =some c→ ∃u,w.cell? ⟨(ρ s).1,i * bd+j,none⟩=some u∧aE w S ρ c u:=by
       intro j c hc
       have hj:j < bd:=by rw [← jn]; exact (List.getElem?_eq_some_iff.1 hc).1
       obtain ⟨u,hu,hr⟩:=cD i j hi hj
       exact ⟨u,by simp [World.cell?,cS,hu],hr e c he hc⟩
      cases g with
      | true=>
       simp only [if_true] at h
       split at h
       ·rename_i hle
        simp only [Option.some.injEq] at h
        subst h
        have hex: ∀j,j < sz→ ∃u,w.cell? ⟨(ρ s).1,i * bd+off+j,none⟩=some u∧ ∀c,e[off+j]? =some c→aE w S ρ c u:=by
         intro j hj
         have dZ:off+j < e.length:=by omega
         obtain ⟨u,hu,hr⟩:=An (off+j) _ (List.getElem?_eq_getElem dZ)
         refine ⟨u,by rwa [Nat.add_assoc],fun c hc=> ?_⟩
         rw [List.getElem?_eq_getElem dZ] at hc
         simp only [Option.some.injEq] at hc
         subst hc; exact hr
        let us:List Value:=(List.range sz).map fun j=>if hj:j < sz then (hex j hj).choose else undef
        have gP: ∀(j:Nat) (u:Value),us[j]? =some u→w.cell? ⟨(ρ s).1,i * bd+off+j,none⟩=some u∧ ∀c,e[off+j]? =some c→aE w S ρ c u:=by
         intro j u hu
         have hj:j < sz:=by
          have :=(List.getElem?_eq_some_iff.1 hu).1
          simpa [us] using this
         simp only [us,List.getElem?_map,List.getElem?_range hj,Option.map_some,Option.some.injEq,hj,dif_pos] at hu
         subst hu
         exact (hex j hj).choose_spec
        have :=dA hg hs (ρ s).1 (i * bd+off) w us (by simp [us]) (fun j u hu=>(gP j u hu).1)
        refine ⟨_,by simpa [Instr.loadAt,Instr.sureAddr] using this,?_⟩
        simp only [aE]
        refine ⟨us,rfl,aS.mk _ _ (by simp [us]; omega) fun k c u hc hu=>(gP k u hu).2 c ?_⟩
        rw [List.getElem?_take] at hc
        split at hc
        ·simpa using hc
        ·cases hc
       ·cases h
      | false=>
       simp only [Bool.false_eq_true,if_false] at h
       obtain ⟨u,hu,hr⟩:=An off av h
       have :=dA hg hs (ρ s).1 (i * bd+off) w [u] (by simp) (fun j u' g7=>by
        cases j with
        | zero=>simp at g7; subst g7; simpa using hu
        | succ j=>simp at g7)
       exact ⟨u,by simpa [Instr.loadAt,Instr.sureAddr] using this,hr⟩
    ·cases h
 | _=>simp [dJ] at h
end
section
variable {P:Program} {w0:dw} {S0:Nat→Nat→Prop} {N:Nat} {ρ:Nat→Nat×Nat} {S:Nat→Nat→Prop} {st:St} {a:Act} {w:World}
theorem dB {x:AV} {v:Value} {k:IntKind} {n:Int} (hx:aE w S ρ x v) (h:x= .d (.int k n)) :v= .int k n:=by
 subst h; simpa only [aE,aW] using hx
theorem ky {x:AV} {v:Value} {b:Bool} (hx:aE w S ρ x v) (h:x= .d (.bool b)) :v= .bool b:=by
 subst h; simpa only [aE,aW] using hx
def Ao:DV→Value
 | .int k n=> .int k n
 | .bool b=> .bool b
 | _=>undef
theorem D9 {op:BinOp} {t:TypeId} {ox oy:Operand} {x y av:AV} {vx vy:Value} (hx:aE w S ρ x vx) (hy:aE w S ρ y vy) (h:At op x y=some av) :
  ∃u,(do eqGuard op t ox oy vx vy; binOp op t vx vy:Sem Value).run P w= .ok u w∧aE w S ρ av u:=by
 unfold At at h
 split at h
 ·rename_i k n k' m
  have ex:=dB hx rfl
  have ey:=dB hy rfl
  subst ex ey
  split at h
  ·rename_i hk
   subst hk
   have hg:(eqGuard op t ox oy (.int k n) (.int k m)).run P w= .ok () w:=by cases op<;>simp [eqGuard]
   simp only [Option.map_eq_some_iff] at h
   obtain ⟨c,hc,rfl⟩:=h
   have hb:(binOp op t (.int k n) (.int k m)).run P w= .ok (Ao c) w∧aW w S c (Ao c):=by
    cases op<;>simp only [sj] at hc
    case quo=>
     split at hc
     ·cases hc
     ·rename_i h0
      cases hc
      exact ⟨by simp only [binOp,ne_eq,not_true_eq_false,if_false,Op.intDiv,h0,Sem.run_pure,Ao],by simp only [Ao,aW]⟩
    case rem=>
     split at hc
     ·cases hc
     ·rename_i h0
      cases hc
      exact ⟨by simp only [binOp,ne_eq,not_true_eq_false,if_false,Op.intDiv,h0,Sem.run_pure,Ao],by simp only [Ao,aW]⟩
    case shl=>cases hc
    case shr=>cases hc
    case andNot=>cases hc
    all_goals
     cases hc
     exact ⟨by simp only [binOp,ne_eq,not_true_eq_false,if_false,Op.intArith,Op.intBits,Op.intCmp,Sem.run_pure,Ao],by simp only [Ao,aW]⟩
   exact ⟨Ao c,by simp only [Sem.run_bind,hg,Result.andThen_ok,hb.1],by simpa only [aE] using hb.2⟩
  ·cases h
 ·cases h
theorem D' {op:BinOp} {neg:Bool} (cU:op=if neg then .neq else .eql) {t:TypeId} (ht:P.underlying t=some .bool) {ox oy:Operand} {x y av:AV} {vx vy:Value}
  (hx:aE w S ρ x vx) (hy:aE w S ρ y vy) (h:IK neg x y=some av) :
  ∃u,(do eqGuard op t ox oy vx vy; binOp op t vx vy:Sem Value).run P w= .ok u w∧aE w S ρ av u:=by
 unfold IK at h
 split at h
 ·rename_i p q
  have ex:=ky hx rfl
  have ey:=ky hy rfl
  subst ex ey
  simp only [Option.some.injEq] at h
  subst h
  have he:=run_equalIn_bool' (P:=P) w 9999 t p q ht
  cases neg with
  | true=>
   simp only [if_true] at cU
   simp only [cond_true]
   subst cU
   have hg:(eqGuard .neq t ox oy (.bool p) (.bool q)).run P w= .ok () w:=by simp [eqGuard]
   refine ⟨.bool (!(p==q)),?_,by simp only [aE,aW]⟩
   simp [hg,binOp,Op.equal,Op.maxDepth,he]
  | false=>
   simp only [Bool.false_eq_true,if_false] at cU
   simp only [cond_false]
   subst cU
   have hg:(eqGuard .eql t ox oy (.bool p) (.bool q)).run P w= .ok () w:=by simp [eqGuard]
   refine ⟨.bool (p==q),?_,by simp only [aE,aW]⟩
   simp [hg,binOp,Op.equal,Op.maxDepth,he]
 ·cases h
theorem yD {P:Program} (w:World) (d:Nat) (t e:TypeId) (a:Option Addr) (l c:Nat) (h:P.underlying t=some (.slice e)) :(Op.equalIn (d+1) t (.slice a l c) (.slice none 0 0)).run P w= .ok a.isNone w:=by
 cases a<;>simp [Op.equalIn,run_underlying h]
theorem Ea {op:BinOp} {neg:Bool} (cU:op=if neg then .neq else .eql) {t e:TypeId} (ht:P.underlying t=some (.slice e)) {ox oy:Operand} {x av:AV} {vx:Value}
  (hx:aE w S ρ x vx) (h:IM neg x=some av) :
  ∃u,(do eqGuard op t ox oy vx (.slice none 0 0); binOp op t vx (.slice none 0 0) :Sem Value).run P w= .ok u w∧aE w S ρ av u:=by
 have key: ∃a l c,vx= .slice a l c∧av= .d (.bool (if neg then !a.isNone else a.isNone)):=by
  unfold IM at h
  split at h<;>try simp only [Option.some.injEq,reduceCtorEq] at h
  ·simp only [aE,aW] at hx
   subst h
   exact ⟨none,0,0,hx,by cases neg<;>rfl⟩
  ·simp only [aE,aW] at hx
   obtain ⟨a,b,o,cap,rfl,_⟩:=hx
   subst h
   exact ⟨some a,_,_,rfl,by cases neg<;>rfl⟩
  ·rename_i k sz es
   simp only [aE,aW] at hx
   cases hb:Nat.beq es.length 0 with
   | true=>simp [hb] at h
   | false=>
    simp only [hb,cond_false,Option.some.injEq] at h
    subst h
    rcases hx with ⟨_,rfl⟩ | ⟨a,b,o,cap,rfl,_⟩
    ·cases hb
    ·exact ⟨some a,_,_,rfl,by cases neg<;>rfl⟩
  ·simp only [aE] at hx
   obtain ⟨a,cap,rfl,_⟩:=hx
   subst h
   exact ⟨some a,_,_,rfl,by cases neg<;>rfl⟩
 obtain ⟨a,l,c,rfl,rfl⟩:=key
 have he:(Op.equalIn (9999+1) t (.slice a l c) (.slice none 0 0)).run P w= .ok a.isNone w:=yD w 9999 t e a l c ht
 cases neg with
 | true=>
  simp only [if_true] at cU
  subst cU
  have hg:(eqGuard .neq t ox oy (.slice a l c) (.slice none 0 0)).run P w= .ok () w:=by simp [eqGuard]
  refine ⟨.bool (!a.isNone),?_,by simp only [if_true,aE,aW]⟩
  simp [hg,binOp,Op.equal,Op.maxDepth,he]
 | false=>
  simp only [Bool.false_eq_true,if_false] at cU
  subst cU
  have hg:(eqGuard .eql t ox oy (.slice a l c) (.slice none 0 0)).run P w= .ok () w:=by simp [eqGuard]
  refine ⟨.bool a.isNone,?_,by simp only [Bool.false_eq_true,if_false,aE,aW]⟩
  simp [hg,binOp,Op.equal,Op.maxDepth,he]
theorem nf (d:Nat) : ∀(fs:List Field) (n:Nat) (xs ys:List Value) (cx cy:List AV) (r:Bool),ku P n fs=true→
  aS w S ρ cx xs→aS w S ρ cy ys→cx.length=n+fs.length→cy.length=n+fs.length→ot (cx.drop n) (cy.drop n)=some r→
  (Op.eqFields (d+1) xs.toArray ys.toArray fs).run P w= .ok r w
 | [],n,xs,ys,cx,cy,r,_,hx,hy,lx,ly,h=>by
  have h1:cx.drop n=[]:=List.drop_eq_nil_of_le (by simp at lx; omega)
  have h2:cy.drop n=[]:=List.drop_eq_nil_of_le (by simp at ly; omega)
  rw [h1,h2] at h
  simp only [ot,Option.some.injEq] at h
  subst h
  simp [Op.eqFields]
 | f::fs,n,xs,ys,cx,cy,r,hf,hx,hy,lx,ly,h=>by
  simp only [ku,Bool.and_eq_true,beq_iff_eq,bne_iff_ne] at hf
  obtain ⟨⟨⟨ho,hn⟩,ht⟩,iT⟩:=hf
  simp only [List.length_cons] at lx ly
  have ex:cx.drop n=cx[n]'(by omega)::cx.drop (n+1):=List.drop_eq_getElem_cons (by omega)
  have ey:cy.drop n=cy[n]'(by omega)::cy.drop (n+1):=List.drop_eq_getElem_cons (by omega)
  obtain ⟨u,hu,x6⟩:=aS.at cx xs hx n _ (List.getElem?_eq_getElem (by omega))
  obtain ⟨v,hv,F6⟩:=aS.at cy ys hy n _ (List.getElem?_eq_getElem (by omega))
  rw [ex,ey] at h
  generalize cx[n]'(by omega)=p at *
  generalize cy[n]'(by omega)=q at *
  have Lq: ∀(zs:List Value) (z:Value),zs[n]? =some z→(part f.type zs.toArray f.offset).run P w= .ok z w:=by
   intro zs z hz
   rw [ho]
   have Qw:lp P f.type=some false:=by
    unfold lp
    split at ht<;>first | (rename_i hu; simp [hu]) | cases ht
   simp [part,nG Qw,hz]
  unfold ot at h
  split at h
  ·rename_i h1 h2; simp at h1
  ·rename_i k x l k' y m h1 h2
   simp only [List.cons.injEq] at h1 h2
   obtain ⟨rfl,rfl⟩:=h1
   obtain ⟨rfl,rfl⟩:=h2
   have eu:=dB x6 rfl
   have ev:=dB F6 rfl
   subst eu ev
   split at h
   ·rename_i hk
    subst hk
    simp only [Option.map_eq_some_iff] at h
    obtain ⟨r',uz,rfl⟩:=h
    have ih:=nf d fs (n+1) xs ys cx cy r' iT hx hy (by omega) (by omega) uz
    split at ht
    ·rename_i k2 hty
     have he:=run_equalIn_int (P:=P) w d f.type k k2 x y hty
     simp only [Op.eqFields,hn,ne_eq,not_false_eq_true,if_true,Sem.run_bind,Lq xs _ hu,Lq ys _ hv,Result.andThen_ok,he]
     cases Qx:(x==y)
     ·simp
     ·simpa using ih
    ·cases ht
   ·cases h
  ·cases h
theorem lU {x:AV} {v:Value} {cs:List AV} (hx:aE w S ρ x v) (h:x.ou=some cs) : ∃us:List Value,v= .agg us.toArray∧aS w S ρ cs us:=by
 unfold AV.ou at h
 split at h
 ·simp only [Option.some.injEq] at h; subst h
  simp only [aE,aW] at hx
  obtain ⟨us,rfl,hl⟩:=hx
  exact ⟨us,rfl,cg.CH _ _ hl⟩
 ·simp only [Option.some.injEq] at h; subst h
  simp only [aE] at hx
  exact hx
 ·cases h
theorem Eb {op:BinOp} {neg:Bool} (cU:op=if neg then .neq else .eql) {t:TypeId} {n:Nat} (ht:yg P t=some n) {ox oy:Operand} {x y av:AV} {vx vy:Value}
  (hx:aE w S ρ x vx) (hy:aE w S ρ y vy) (h:IL neg n x y=some av) :
  ∃u,(do eqGuard op t ox oy vx vy; binOp op t vx vy:Sem Value).run P w= .ok u w∧aE w S ρ av u:=by
 unfold IL at h
 split at h
 case h_2=>cases h
 rename_i cx cy hcx hcy
 obtain ⟨xs,rfl,hlx⟩:=lU hx hcx
 obtain ⟨ys,rfl,hly⟩:=lU hy hcy
 split at h
 ·rename_i hl
  simp only [Option.map_eq_some_iff] at h
  obtain ⟨r,hr,rfl⟩:=h
  unfold yg at ht
  cases hu:P.underlying t with
  | none=>simp [hu] at ht
  | some d=>
   cases d<;>simp only [hu,reduceCtorEq] at ht
   case struct fs=>
    split at ht
    ·rename_i hc
     simp only [Bool.and_eq_true,Bool.not_eq_true'] at hc
     simp only [Option.some.injEq] at ht
     have F7:P.fieldsOf t=fs:=by simp [Program.fieldsOf,hu]
     have he:=run_equalIn_agg (P:=P) w 9999 t xs.toArray ys.toArray (by rw [F7]; exact hu) hc.1.2
     rw [F7] at he
     have hfl:=nf (P:=P) 9998 fs.toList 0 xs ys cx cy r hc.1.1 hlx hly (by simp [hl.1,← ht]) (by simp [hl.2,← ht]) (by simpa using hr)
     rw [hfl] at he
     have hg:=run_eqGuard_agg (P:=P) w op t ox oy xs.toArray ys.toArray hc.2
     cases neg with
     | true=>
      simp only [if_true] at cU
      simp only [cond_true]
      subst cU
      exact ⟨.bool (!r),by simp only [Sem.run_bind,hg,Result.andThen_ok,run_neq_struct,he],by simp only [aE,aW]⟩
     | false=>
      simp only [Bool.false_eq_true,if_false] at cU
      simp only [cond_false]
      subst cU
      exact ⟨.bool r,by simp only [Sem.run_bind,hg,Result.andThen_ok,run_eql_struct,he],by simp only [aE,aW]⟩
    ·cases ht
 ·cases h
theorem Ec {op:BinOp} (cU:op= .shl∨op= .shr) {t:TypeId} {ox oy:Operand} {x y av:AV} {vx vy:Value} (hx:aE w S ρ x vx) (hy:aE w S ρ y vy) (h:pM op x y=some av) :
  ∃u,(do eqGuard op t ox oy vx vy; binOp op t vx vy:Sem Value).run P w= .ok u w∧aE w S ρ av u:=by
 unfold pM at h
 split at h
 ·rename_i k n k' m
  have ex:=dB hx rfl
  have ey:=dB hy rfl
  subst ex ey
  simp only [Option.map_eq_some_iff] at h
  obtain ⟨c,hc,rfl⟩:=h
  have hg:(eqGuard op t ox oy (.int k n) (.int k' m)).run P w= .ok () w:=by rcases cU with rfl | rfl<;>simp [eqGuard]
  have hb:(binOp op t (.int k n) (.int k' m)).run P w= .ok (Ao c) w∧aW w S c (Ao c):=by
   unfold oq at hc
   split at hc
   ·cases hc
   ·rename_i h0
    rcases cU with rfl | rfl
    ·cases hc
     exact ⟨by simp only [binOp,Op.shift,h0,if_false,Sem.run_pure,Ao],by simp only [Ao,aW]⟩
    ·cases hc
     exact ⟨by simp only [binOp,Op.shift,h0,if_false,Sem.run_pure,Ao],by simp only [Ao,aW]⟩
  exact ⟨Ao c,by simp only [Sem.run_bind,hg,Result.andThen_ok,hb.1],by simpa only [aE] using hb.2⟩
 ·cases h
theorem F8 {op:UnOp} {x av:AV} {v:Value} (hx:aE w S ρ x v) (h:aUn op x=some av) : ∃u,(Op.unary op v).run P w= .ok u w∧aE w S ρ av u:=by
 unfold aUn at h
 split at h
 ·rename_i k n
  have ex:=dB hx rfl
  subst ex
  split at h
  ·simp only [Option.some.injEq] at h
   subst h
   exact ⟨.int k (k.wrap (0 - n)),by simp only [Op.unary,Op.intArith,Sem.run_pure],by simp only [aE,aW]⟩
  ·cases h
 ·rename_i b
  have ex:=ky hx rfl
  subst ex
  split at h
  ·simp only [Option.some.injEq] at h
   subst h
   exact ⟨.bool (!b),by simp only [Op.unary,Sem.run_pure],by simp only [aE,aW]⟩
  ·cases h
 ·cases h
theorem AP {src dst:TypeId} {d:TypeDesc} {k:IntKind} (hs:P.underlying src=some d) (hd:P.underlying dst=some (.int k)) {x av:AV} {v:Value} (hx:aE w S ρ x v)
  (h:yb k x=some av) : ∃u,(convert src dst v).run P w= .ok u w∧aE w S ρ av u:=by
 unfold yb at h
 split at h
 ·rename_i k' n
  have ex:=dB hx rfl
  subst ex
  simp only [Option.some.injEq] at h
  subst h
  exact ⟨.int k (k.wrap n),by simp [convert,run_underlying hs,run_underlying hd,Conv.intToInt],by simp only [aE,aW]⟩
 ·cases h
theorem Ed {t e ty:TypeId} (ht:P.underlying t=some (.slice e)) {x av:AV} {v:Value} (hx:aE w S ρ x v) (h:FA x=some av) :
  ∃u,(Builtin.len_ #[t] ty #[v]).run P w= .ok u w∧aE w S ρ av u:=by
 unfold FA at h
 split at h
 ·simp only [Option.some.injEq] at h; subst h
  simp only [aE,aW] at hx; subst hx
  exact ⟨.int .i64 0,by simp [Builtin.len_,run_underlying ht,goInt],by simp only [aE,aW]⟩
 ·simp only [Option.some.injEq] at h; subst h
  simp only [aE,aW] at hx
  obtain ⟨a,b,o,cap,rfl,_⟩:=hx
  exact ⟨_,by simp [Builtin.len_,run_underlying ht,goInt]; rfl,by simp only [aE,aW]⟩
 ·simp only [Option.some.injEq] at h; subst h
  simp only [aE,aW] at hx
  rcases hx with ⟨rfl,rfl⟩ | ⟨a,b,o,cap,rfl,_⟩
  ·exact ⟨.int .i64 0,by simp [Builtin.len_,run_underlying ht,goInt],by simp only [aE,aW]; rfl⟩
  ·exact ⟨_,by simp [Builtin.len_,run_underlying ht,goInt]; rfl,by simp only [aE,aW]⟩
 ·simp only [Option.some.injEq] at h; subst h
  simp only [aE] at hx
  obtain ⟨b,cap,rfl,_⟩:=hx
  exact ⟨_,by simp [Builtin.len_,run_underlying ht,goInt]; rfl,by simp only [aE,aW]⟩
 ·simp only [Option.some.injEq] at h; subst h
  simp only [aE] at hx
  obtain ⟨b,cap,rfl,_⟩:=hx
  exact ⟨_,by simp [Builtin.len_,run_underlying ht,goInt]; rfl,by simp only [aE,aW]⟩
 ·cases h
theorem wT {P:Program} (w:World) (d:Nat) (t e:TypeId) (a:Option Addr) (h:P.underlying t=some (.pointer e)) :(Op.equalIn (d+1) t (.pointer a) (.pointer none)).run P w= .ok a.isNone w:=by
 cases a<;>simp [Op.equalIn,run_underlying h]
theorem AQ {op:BinOp} {neg:Bool} (cU:op=if neg then .neq else .eql) {t e:TypeId} (ht:P.underlying t=some (.pointer e)) {ox oy:Operand} {x av:AV} {vx:Value}
  (hx:aE w S ρ x vx) (h:B7 neg x=some av) :
  ∃u,(do eqGuard op t ox oy vx (.pointer none); binOp op t vx (.pointer none) :Sem Value).run P w= .ok u w∧aE w S ρ av u:=by
 have key: ∃a,vx= .pointer a∧av= .d (.bool (if neg then !a.isNone else a.isNone)):=by
  unfold B7 at h
  split at h<;>simp only [Option.some.injEq,reduceCtorEq] at h
  ·simp only [aE,aW] at hx
   subst h
   exact ⟨none,hx,by cases neg<;>rfl⟩
  ·simp only [aE,aW] at hx
   obtain ⟨b,o,rfl,_⟩:=hx
   subst h
   exact ⟨_,rfl,by cases neg<;>rfl⟩
  ·simp only [aE] at hx
   subst h
   exact ⟨_,hx,by cases neg<;>rfl⟩
 obtain ⟨a,rfl,rfl⟩:=key
 have he:(Op.equalIn (9999+1) t (.pointer a) (.pointer none)).run P w= .ok a.isNone w:=wT w 9999 t e a ht
 cases neg with
 | true=>
  simp only [if_true] at cU
  subst cU
  have hg:(eqGuard .neq t ox oy (.pointer a) (.pointer none)).run P w= .ok () w:=by simp [eqGuard]
  refine ⟨.bool (!a.isNone),?_,by simp only [if_true,aE,aW]⟩
  simp [hg,binOp,Op.equal,Op.maxDepth,he]
 | false=>
  simp only [Bool.false_eq_true,if_false] at cU
  subst cU
  have hg:(eqGuard .eql t ox oy (.pointer a) (.pointer none)).run P w= .ok () w:=by simp [eqGuard]
  refine ⟨.bool a.isNone,?_,by simp only [Bool.false_eq_true,if_false,aE,aW]⟩
  simp [hg,binOp,Op.equal,Op.maxDepth,he]
theorem sL {t e:TypeId} {n:Nat} (h:IP P t=some (n,e)) :P.underlying t=some (.array n e):=by
 unfold IP at h
 split at h
 ·rename_i hu; simp only [Option.some.injEq,Prod.mk.injEq] at h; obtain ⟨rfl,rfl⟩:=h; exact hu
 ·cases h
theorem AR {t e:TypeId} {n rQ:Nat} (ht:P.underlying t=some (.array n e)) (hs:cG P e=some rQ) {x i av:AV} {vx vi:Value} (hx:aE w S ρ x vx) (hi:aE w S ρ i vi)
  (h:yc rQ n x i=some av) : ∃u,(Instr.indexAt t vx vi).run P w= .ok u w∧aE w S ρ av u:=by
 unfold yc at h
 split at h
 ·rename_i el o k m
  have ei:=dB hi rfl
  subst ei
  split at h
  ·rename_i hc
   obtain ⟨h0,dZ⟩:=hc
   simp only [Option.some.injEq] at h; subst h
   simp only [aE,aW] at hx
   obtain ⟨b,o',rfl,pV⟩:=hx
   refine ⟨.pointer (some ⟨b,o'+o+m.toNat * rQ,none⟩),by simp [Instr.indexAt,asIntOf,run_underlying ht,cY hs,h0,dZ,eM,Instr.sureAddr],?_⟩
   simp only [aE,aW]
   exact ⟨b,o',by rw [Nat.add_assoc],pV⟩
  ·cases h
 ·rename_i s sz j o k m
  have ei:=dB hi rfl
  subst ei
  split at h
  ·rename_i hc
   obtain ⟨h0,dZ⟩:=hc
   simp only [Option.some.injEq] at h; subst h
   simp only [aE] at hx
   subst hx
   refine ⟨.pointer (some ⟨(ρ s).1,j * sz+o+m.toNat * rQ,none⟩),by simp [Instr.indexAt,asIntOf,run_underlying ht,cY hs,h0,dZ,eM,Instr.sureAddr],?_⟩
   simp only [aE,Nat.add_assoc]
  ·cases h
 ·cases h
theorem yE {s:TypeId} {fs:Array Field} {f:Nat} {fd:Field} {n:Nat} (hs:P.underlying s=some (.struct fs)) (hf:fs[f]? =some fd) (hn:cG P fd.type=some n) (h0:n≠0)
  {x av:AV} {v:Value} (hx:aE w S ρ x v) (h:nu fd.offset x=some av) : ∃u,(Instr.fieldAt s v f).run P w= .ok u w∧aE w S ρ av u:=by
 have wU: ∀b o,(fieldPlace ⟨b,o,none⟩ fd).run P w= .ok ⟨b,o+fd.offset,none⟩ w:=by
  intro b o
  simp [fieldPlace,cY hn,h0,eM]
 unfold nu at h
 split at h
 ·rename_i e o
  simp only [Option.some.injEq] at h; subst h
  simp only [aE,aW] at hx
  obtain ⟨b,o',rfl,hc⟩:=hx
  refine ⟨.pointer (some ⟨b,o'+o+fd.offset,none⟩),by simp [Instr.fieldAt,run_underlying hs,hf,Instr.sureAddr,wU],?_⟩
  simp only [aE,aW]
  exact ⟨b,o',by rw [Nat.add_assoc],hc⟩
 ·rename_i s' sz i o
  simp only [Option.some.injEq] at h; subst h
  simp only [aE] at hx
  subst hx
  refine ⟨.pointer (some ⟨(ρ s').1,i * sz+o+fd.offset,none⟩),by simp [Instr.fieldAt,run_underlying hs,hf,Instr.sureAddr,wU],?_⟩
  simp only [aE,Nat.add_assoc]
 ·cases h
theorem yF {t e:TypeId} {sz:Nat} (ht:P.underlying t=some (.slice e)) (hs:cG P e=some sz) {x i av:AV} {vx vi:Value} (hx:aE w S ρ x vx) (hi:aE w S ρ i vi)
  (h:ig sz x i=some av) : ∃u,(Instr.indexAt t vx vi).run P w= .ok u w∧aE w S ρ av u:=by
 unfold ig at h
 split at h
 ·rename_i k bd es k' n
  have ei:=dB hi rfl
  subst ei
  split at h
  ·rename_i hc
   obtain ⟨rfl,h0⟩:=hc
   simp only [Option.map_eq_some_iff] at h
   obtain ⟨r,hr,rfl⟩:=h
   simp only [aE,aW] at hx
   obtain ⟨a,b,o,cap,rfl,ha,_,_,he⟩:=hx
   have dZ:n.toNat < es.length:=(List.getElem?_eq_some_iff.1 hr).1
   have Qy:=ha (by omega)
   subst Qy
   have MT:n < es.length:=by omega
   have gA:=gO.at es sz b o he n.toNat r hr
   refine ⟨.pointer (some ⟨b,o+n.toNat * sz,none⟩),by simp [Instr.indexAt,asIntOf,run_underlying ht,cY hs,h0,MT,eM],?_⟩
   simp only [aE,aW]
   exact ⟨b,o+n.toNat * sz,rfl,gA.2⟩
  ·cases h
 ·rename_i k bd es k' n
  have ei:=dB hi rfl
  subst ei
  split at h
  ·rename_i hc
   obtain ⟨rfl,h0⟩:=hc
   simp only [Option.map_eq_some_iff] at h
   obtain ⟨r,hr,rfl⟩:=h
   simp only [aE] at hx
   rcases hx.ag with ⟨_,rfl⟩ | hx
   ·simp at hr
   simp only [aW] at hx
   obtain ⟨a,b,o,cap,rfl,ha,_,_,he⟩:=hx
   have dZ:n.toNat < es.length:=(List.getElem?_eq_some_iff.1 hr).1
   have Qy:=ha (by omega)
   subst Qy
   have MT:n < es.length:=by omega
   have gA:=gO.at es sz b o he n.toNat r hr
   refine ⟨.pointer (some ⟨b,o+n.toNat * sz,none⟩),by simp [Instr.indexAt,asIntOf,run_underlying ht,cY hs,h0,MT,eM],?_⟩
   simp only [aE,aW]
   exact ⟨b,o+n.toNat * sz,rfl,gA.2⟩
  ·cases h
 ·rename_i s bd off len k' n
  have ei:=dB hi rfl
  subst ei
  split at h
  ·rename_i hc
   obtain ⟨rfl,h0,dZ⟩:=hc
   simp only [Option.some.injEq] at h; subst h
   simp only [aE] at hx
   obtain ⟨b,cap,rfl,hb,_⟩:=hx
   have :=hb (.inl (by omega))
   subst this
   refine ⟨.pointer (some ⟨(ρ s).1,off * sz+n.toNat * sz,none⟩),by simp [Instr.indexAt,asIntOf,run_underlying ht,cY hs,h0,dZ,eM],?_⟩
   simp only [aE,Nat.add_mul,Nat.add_zero]
  ·cases h
 ·rename_i s bd r off len k' n
  have ei:=dB hi rfl
  subst ei
  split at h
  ·rename_i hc
   obtain ⟨rfl,h0,dZ⟩:=hc
   simp only [Option.some.injEq] at h; subst h
   simp only [aE] at hx
   obtain ⟨b,cap,rfl,hb,_⟩:=hx
   have :=hb (by omega)
   subst this
   refine ⟨.pointer (some ⟨(ρ s).1,r * bd+off+n.toNat,none⟩),by simp [Instr.indexAt,asIntOf,run_underlying ht,cY hs,h0,dZ,eM],?_⟩
   simp only [aE,Nat.add_assoc]
  ·cases h
 ·cases h
theorem Ee {i:Nat} {x av:AV} {v:Value} (hx:aE w S ρ x v) (h:FB i x=some av) : ∃u,(Instr.extract v i).run P w= .ok u w∧aE w S ρ av u:=by
 unfold FB at h
 split at h
 ·rename_i vs
  simp only [aE] at hx
  obtain ⟨us,rfl,hl⟩:=hx
  obtain ⟨u,hu,hr⟩:=aS.at vs us hl i av h
  exact ⟨u,by simp [Instr.extract,hu],hr⟩
 ·rename_i vs
  simp only [aE,aW] at hx
  obtain ⟨us,rfl,hl⟩:=hx
  simp only [Option.map_eq_some_iff] at h
  obtain ⟨c,hc,rfl⟩:=h
  obtain ⟨u,hu,hr⟩:=cg.at vs us hl i c hc
  exact ⟨u,by simp [Instr.extract,hu],by simpa only [aE] using hr⟩
 ·cases h
theorem sM: ∀(xs:List AV) (us:List Value) (acc:AV) (va:Value) (av:AV),aS w S ρ xs us→aE w S ρ acc va→
  xs.foldl (fun a b=>match a,b with
  | some (.d (.int k x)),.d (.int k' y)=>if k=k' then some (.d (.int k (if y > x then y else x))) else none
  | _,_=>none) (some acc)=some av→ ∃u,(us.foldlM Builtin.max2 va).run P w= .ok u w∧aE w S ρ av u
 | [],us,acc,va,av,hl,ha,h=>by
  simp only [aS] at hl; subst hl
  simp only [List.foldl_nil,Option.some.injEq] at h; subst h
  exact ⟨va,by simp,ha⟩
 | x::xs,us,acc,va,av,hl,ha,h=>by
  simp only [aS] at hl
  obtain ⟨u,us,rfl,hu,hl⟩:=hl
  simp only [List.foldl_cons] at h
  have sN: ∀(ys:List AV),ys.foldl (fun a b=>match a,b with
   | some (.d (.int k x)),.d (.int k' y)=>if k=k' then some (.d (.int k (if y > x then y else x))) else none
   | _,_=>none) (none:Option AV)=none:=by
   intro ys
   induction ys with
   | nil=>rfl
   | cons y ys ih=>simpa only [List.foldl_cons] using ih
  split at h
  ·rename_i k p k' q heq
   have MU:=Option.some.inj heq
   split at h
   ·rename_i hk
    subst hk MU
    have e1:=dB ha rfl
    have e2:=dB hu rfl
    subst e1 e2
    obtain ⟨r,hr,I6⟩:=sM xs us (.d (.int k (if q > p then q else p))) (.int k (if q > p then q else p)) av hl (by simp only [aE,aW]) h
    refine ⟨r,?_,I6⟩
    simp only [List.foldlM_cons,Sem.run_bind,Builtin.max2,Sem.run_pure,Result.andThen_ok]
    exact hr
   ·rw [sN] at h; cases h
  ·rw [sN] at h; cases h
theorem sO: ∀(xs:List AV) (us:List Value) (acc:AV) (va:Value) (av:AV),aS w S ρ xs us→aE w S ρ acc va→
  xs.foldl (fun a b=>match a,b with
  | some (.d (.int k x)),.d (.int k' y)=>if k=k' then some (.d (.int k (if y < x then y else x))) else none
  | _,_=>none) (some acc)=some av→ ∃u,(us.foldlM Builtin.min2 va).run P w= .ok u w∧aE w S ρ av u
 | [],us,acc,va,av,hl,ha,h=>by
  simp only [aS] at hl; subst hl
  simp only [List.foldl_nil,Option.some.injEq] at h; subst h
  exact ⟨va,by simp,ha⟩
 | x::xs,us,acc,va,av,hl,ha,h=>by
  simp only [aS] at hl
  obtain ⟨u,us,rfl,hu,hl⟩:=hl
  simp only [List.foldl_cons] at h
  have sN: ∀(ys:List AV),ys.foldl (fun a b=>match a,b with
   | some (.d (.int k x)),.d (.int k' y)=>if k=k' then some (.d (.int k (if y < x then y else x))) else none
   | _,_=>none) (none:Option AV)=none:=by
   intro ys
   induction ys with
   | nil=>rfl
   | cons y ys ih=>simpa only [List.foldl_cons] using ih
  split at h
  ·rename_i k p k' q heq
   have MU:=Option.some.inj heq
   split at h
   ·rename_i hk
    subst hk MU
    have e1:=dB ha rfl
    have e2:=dB hu rfl
    subst e1 e2
    obtain ⟨r,hr,I6⟩:=sO xs us (.d (.int k (if q < p then q else p))) (.int k (if q < p then q else p)) av hl (by simp only [aE,aW]) h
    refine ⟨r,?_,I6⟩
    simp only [List.foldlM_cons,Sem.run_bind,Builtin.min2,Sem.run_pure,Result.andThen_ok]
    exact hr
   ·rw [sN] at h; cases h
  ·rw [sN] at h; cases h
end
section
variable {P:Program} {w0:dw} {S0:Nat→Nat→Prop} {N:Nat} {ρ:Nat→Nat×Nat} {S:Nat→Nat→Prop} {st:St} {a:Act} {w:World}
theorem run_sliceBound (k:IntKind) (i:Int) (y:Nat) (code:BoundsCode) (h0:0≤i) (h1:i≤y) :(Instr.sliceBound (.int k i) y code).run P w= .ok i.toNat w:=by
 simp [Instr.sliceBound,asIntOf,h0,h1]
theorem gB (hI:Inv w0 S0 N ρ S st a w) {x:Option Operand} {ax:Option AX} {r:Option Int} (hc:rE x=some ax) (h:dV st ax=some r) :
  (x=none∧r=none)∨ ∃o k n,x=some o∧r=some n∧a.eval o= .int k n:=by
 unfold rE at hc
 split at hc
 ·simp only [Option.some.injEq] at hc; subst hc
  simp only [dV,Option.some.injEq] at h
  exact .inl ⟨rfl,h.symm⟩
 ·rename_i o
  simp only [Option.map_eq_some_iff] at hc
  obtain ⟨ax',Fm,rfl⟩:=hc
  simp only [dV] at h
  split at h
  ·rename_i k n he
   simp only [Option.some.injEq] at h
   have :=bh hI Fm
   exact .inr ⟨o,k,n,rfl,h.symm,dB this he⟩
  ·cases h
theorem rH (len cap:Nat) (lo hi mx:Option Int) (Ef Eg Qz:Option Value)
  (Ix:(Ef=none∧lo=none)∨ ∃k n,Ef=some (.int k n)∧lo=some n)
  (Lr:(Eg=none∧hi=none)∨ ∃k n,Eg=some (.int k n)∧hi=some n)
  (emx:(Qz=none∧mx=none)∨ ∃k n,Qz=some (.int k n)∧mx=some n)
  (h0:0≤lo.getD 0) (h1:lo.getD 0≤hi.getD len) (h2:hi.getD len≤mx.getD cap) (h3:mx.getD cap≤cap) (h4:mx.isSome=true→hi.isSome=true) :
  (Instr.sliceBounds true len cap Ef Eg Qz).run P w= .ok ((lo.getD 0).toNat,(hi.getD len).toNat,(mx.getD cap).toNat) w:=by
 have h5:0≤hi.getD len:=Int.le_trans h0 h1
 have h6:0≤mx.getD cap:=Int.le_trans h5 h2
 rcases emx with ⟨rfl,rfl⟩ | ⟨km,nm,rfl,rfl⟩
 ·rcases Lr with ⟨rfl,rfl⟩ | ⟨kh,nh,rfl,rfl⟩
  ·rcases Ix with ⟨rfl,rfl⟩ | ⟨kl,nl,rfl,rfl⟩
   ·simp [Instr.sliceBounds]
   ·simp only [Option.getD_some,Option.getD_none] at *
    simp [Instr.sliceBounds,run_sliceBound kl nl len _ h0 h1]
  ·simp only [Option.getD_some,Option.getD_none] at *
   have hh:=fun c=>run_sliceBound (P:=P) (w:=w) kh nh cap c h5 h2
   rcases Ix with ⟨rfl,rfl⟩ | ⟨kl,nl,rfl,rfl⟩
   ·simp [Instr.sliceBounds,hh]
   ·simp only [Option.getD_some,Option.getD_none] at *
    have hl:=fun c=>run_sliceBound (P:=P) (w:=w) kl nl nh.toNat c h0 (by omega)
    simp [Instr.sliceBounds,hh,hl]
 ·rcases Lr with ⟨rfl,rfl⟩ | ⟨kh,nh,rfl,rfl⟩
  ·simp at h4
  ·simp only [Option.getD_some,Option.getD_none] at *
   have hm:=fun c=>run_sliceBound (P:=P) (w:=w) km nm cap c h6 h3
   have hh:=fun c=>run_sliceBound (P:=P) (w:=w) kh nh nm.toNat c h5 (by omega)
   rcases Ix with ⟨rfl,rfl⟩ | ⟨kl,nl,rfl,rfl⟩
   ·simp [Instr.sliceBounds,hm,hh]
   ·simp only [Option.getD_some,Option.getD_none] at *
    have hl:=fun c=>run_sliceBound (P:=P) (w:=w) kl nl nh.toNat c h0 (by omega)
    simp [Instr.sliceBounds,hm,hh,hl]
theorem gO.drop_take {es:aj} {sz b o:Nat} (h:gO w S es sz b o) (l n:Nat) :gO w S ((es.take n).drop l) sz b (o+l * sz):=by
 refine gO.mk _ _ _ _ fun i e he=> ?_
 rw [List.getElem?_drop,List.getElem?_take] at he
 split at he
 ·have :=gO.at es sz b o h (l+i) e he
  rwa [show o+l * sz+i * sz=o+ (l+i) * sz by rw [Nat.add_mul]; omega]
 ·cases he
theorem pW (n:Nat) (lo hi:Option Int) (Ef Eg:Option Value)
  (Ix:(Ef=none∧lo=none)∨ ∃k n,Ef=some (.int k n)∧lo=some n)
  (Lr:(Eg=none∧hi=none)∨ ∃k n,Eg=some (.int k n)∧hi=some n)
  (h0:0≤lo.getD 0) (h1:lo.getD 0≤hi.getD n) (h2:hi.getD n≤n) :
  (Instr.sliceBounds false n n Ef Eg none).run P w= .ok ((lo.getD 0).toNat,(hi.getD n).toNat,n) w:=by
 have h5:0≤hi.getD n:=Int.le_trans h0 h1
 rcases Lr with ⟨rfl,rfl⟩ | ⟨kh,nh,rfl,rfl⟩
 ·rcases Ix with ⟨rfl,rfl⟩ | ⟨kl,nl,rfl,rfl⟩
  ·simp [Instr.sliceBounds]
  ·simp only [Option.getD_some,Option.getD_none] at *
   simp [Instr.sliceBounds,run_sliceBound kl nl n _ h0 h1]
 ·simp only [Option.getD_some,Option.getD_none] at *
  have hh:=fun c=>run_sliceBound (P:=P) (w:=w) kh nh n c h5 h2
  rcases Ix with ⟨rfl,rfl⟩ | ⟨kl,nl,rfl,rfl⟩
  ·simp [Instr.sliceBounds,hh]
  ·simp only [Option.getD_some,Option.getD_none] at *
   have hl:=fun c=>run_sliceBound (P:=P) (w:=w) kl nl nh.toNat c h0 (by omega)
   simp [Instr.sliceBounds,hh,hl]
theorem AS (hI:Inv w0 S0 N ρ S st a w) {t e:TypeId} {n:Nat} (ht:P.underlying t=some (.array n e)) (hs:cG P e=some 1) {x av:AV} {vx:Value}
  (hx:aE w S ρ x vx) {lo hi:Option Operand} {Ls Lt:Option AX} (FN:rE lo=some Ls) (chi:rE hi=some Lt)
  (h:sk st n x Ls Lt=some av) : ∃u,(Instr.sliceAt t vx (lo.map a.eval) (hi.map a.eval) none).run P w= .ok u w∧aE w S ρ av u:=by
 unfold sk at h
 split at h
 ·rename_i fh lV hlo hhi
  have Ix:=gB hI FN hlo
  have Lr:=gB hI chi hhi
  have MV:(lo.map a.eval=none∧fh=none)∨ ∃k n,lo.map a.eval=some (.int k n)∧fh=some n:=by
   rcases Ix with ⟨rfl,rfl⟩ | ⟨o,k,n,rfl,rfl,he⟩
   ·exact .inl ⟨rfl,rfl⟩
   ·exact .inr ⟨k,n,by simp [he],rfl⟩
  have MW:(hi.map a.eval=none∧lV=none)∨ ∃k n,hi.map a.eval=some (.int k n)∧lV=some n:=by
   rcases Lr with ⟨rfl,rfl⟩ | ⟨o,k,n,rfl,rfl,he⟩
   ·exact .inl ⟨rfl,rfl⟩
   ·exact .inr ⟨k,n,by simp [he],rfl⟩
  generalize lo.map a.eval=Ef at *
  generalize hi.map a.eval=Eg at *
  have bU: ∀(ad:Addr),0≤fh.getD 0→fh.getD 0≤lV.getD n→lV.getD n≤n→
    (Instr.sliceAt t (.pointer (some ad)) Ef Eg none).run P w=
     .ok (.slice (some (if n=(fh.getD 0).toNat then ad else ad.add ((fh.getD 0).toNat * 1))) ((lV.getD n).toNat - (fh.getD 0).toNat) (n - (fh.getD 0).toNat)) w:=by
   intro ad h0 h1 h2
   have :=pW (P:=P) (w:=w) n fh lV Ef Eg MV MW h0 h1 h2
   simp only [Instr.sliceAt,Instr.sureAddr,Sem.run_bind,run_underlying ht,Result.andThen_ok,this,cY hs,Sem.run_pure]
  dsimp only at h
  split at h
  ·rename_i hc
   obtain ⟨c0,c1,c2⟩:=hc
   have hn:(lV.getD ↑n - fh.getD 0).toNat=(lV.getD n).toNat - (fh.getD 0).toNat:=by omega
   split at h
   ·rename_i s sz i off
    simp only [Option.some.injEq] at h; subst h
    simp only [aE] at hx; subst hx
    refine ⟨_,bU _ c0 c1 c2,?_⟩
    simp only [aE,hn]
    refine ⟨_,_,rfl,fun cu=> ?_,by omega⟩
    rw [if_neg (by omega),eM]
    simp only [Nat.mul_one,Nat.add_assoc]
   ·rename_i el off
    split at h
    ·rename_i hle
     simp only [Option.some.injEq] at h; subst h
     simp only [aE,aW] at hx
     obtain ⟨b,o,rfl,pV⟩:=hx
     refine ⟨_,bU _ c0 c1 c2,?_⟩
     have hlen:(((el.drop (off+ (fh.getD 0).toNat)).take (lV.getD ↑n - fh.getD 0).toNat).map fun c=>[c]).length=(lV.getD n).toNat - (fh.getD 0).toNat:=by
      simp only [List.length_map,List.length_take,List.length_drop]; omega
     simp only [aE,aW,hlen]
     refine ⟨_,b,o+off+ (fh.getD 0).toNat,_,rfl,fun cu=> ?_,by omega,(fun h=>by cases h),gO.mk _ _ _ _ fun j r hr=> ?_⟩
     ·rw [if_neg (by omega),eM]
      simp only [Nat.mul_one]
     ·simp only [List.getElem?_map,Option.map_eq_some_iff] at hr
      obtain ⟨c,Rp,rfl⟩:=hr
      rw [List.getElem?_take] at Rp
      split at Rp
      ·rw [List.getElem?_drop] at Rp
       have :=iS.at el b o pV _ c Rp
       refine ⟨rfl,iS.mk _ _ _ fun k c' gF=> ?_⟩
       cases k with
       | zero=>
        simp only [List.getElem?_cons_zero,Option.some.injEq] at gF
        subst gF
        rwa [show o+off+ (fh.getD 0).toNat+j * 1+0=o+ (off+ (fh.getD 0).toNat+j) by omega]
       | succ k=>simp at gF
      ·cases Rp
    ·cases h
   ·cases h
  ·cases h
 ·cases h
theorem yG (hI:Inv w0 S0 N ρ S st a w) {t e:TypeId} {sz:Nat} (ht:P.underlying t=some (.slice e)) (hs:cG P e=some sz) {ox:Operand} {x av:AV} {vx:Value}
  (hx:aE w S ρ x vx) {lo hi mx:Option Operand} {Ls Lt amx:Option AX} (FN:rE lo=some Ls) (chi:rE hi=some Lt) (cmx:rE mx=some amx)
  (h:iL st sz x Ls Lt amx=some av) : ∃u,(Instr.sliceAt t vx (lo.map a.eval) (hi.map a.eval) (mx.map a.eval)).run P w= .ok u w∧aE w S ρ av u:=by
 unfold iL at h
 split at h
 ·rename_i fh lV CJ hlo hhi hmx
  have Ix:=gB hI FN hlo
  have Lr:=gB hI chi hhi
  have emx:=gB hI cmx hmx
  have MV:(lo.map a.eval=none∧fh=none)∨ ∃k n,lo.map a.eval=some (.int k n)∧fh=some n:=by
   rcases Ix with ⟨rfl,rfl⟩ | ⟨o,k,n,rfl,rfl,he⟩
   ·exact .inl ⟨rfl,rfl⟩
   ·exact .inr ⟨k,n,by simp [he],rfl⟩
  have MW:(hi.map a.eval=none∧lV=none)∨ ∃k n,hi.map a.eval=some (.int k n)∧lV=some n:=by
   rcases Lr with ⟨rfl,rfl⟩ | ⟨o,k,n,rfl,rfl,he⟩
   ·exact .inl ⟨rfl,rfl⟩
   ·exact .inr ⟨k,n,by simp [he],rfl⟩
  have abC:(mx.map a.eval=none∧CJ=none)∨ ∃k n,mx.map a.eval=some (.int k n)∧CJ=some n:=by
   rcases emx with ⟨rfl,rfl⟩ | ⟨o,k,n,rfl,rfl,he⟩
   ·exact .inl ⟨rfl,rfl⟩
   ·exact .inr ⟨k,n,by simp [he],rfl⟩
  generalize lo.map a.eval=Ef at *
  generalize hi.map a.eval=Eg at *
  generalize mx.map a.eval=Qz at *
  have bU: ∀(ao:Option Addr) (len cap:Nat),0≤fh.getD 0→fh.getD 0≤lV.getD len→lV.getD len≤CJ.getD cap→CJ.getD cap≤cap→(CJ.isSome=true→lV.isSome=true)→
    (Instr.sliceAt t (.slice ao len cap) Ef Eg Qz).run P w=
     .ok (.slice (if (CJ.getD cap).toNat=(fh.getD 0).toNat then ao else ao.map (·.add ((fh.getD 0).toNat * sz))) ((lV.getD len).toNat - (fh.getD 0).toNat) ((CJ.getD cap).toNat - (fh.getD 0).toNat)) w:=by
   intro ao len cap h0 h1 h2 h3 h4
   have :=rH (P:=P) (w:=w) len cap fh lV CJ Ef Eg Qz MV MW abC h0 h1 h2 h3 h4
   simp only [Instr.sliceAt,Instr.slice,Sem.run_bind,run_underlying ht,Result.andThen_ok,this,cY hs,Sem.run_pure]
  dsimp only at h
  split at h
  ·
   split at h
   ·rename_i hc
    obtain ⟨c1,c2,c3,c4⟩:=hc
    simp only [Option.some.injEq] at h; subst h
    simp only [aE,aW] at hx; subst hx
    have hh:lV.getD ((0:Nat) :Int)=0:=by cases lV<;>simp_all
    have hm:CJ.getD ((0:Nat) :Int)=0:=by cases CJ<;>simp_all
    have :=bU none 0 0 (by omega) (by omega) (by omega) (by omega) (by simpa using c4)
    refine ⟨_,this,?_⟩
    simp [aE,aW,hh,hm,c1,c2,c3]
   ·cases h
  ·
   rename_i k bd es
   split at h
   ·rename_i hc
    obtain ⟨rfl,c0,c1,c2⟩:=hc
    simp only [aE,aW] at hx
    obtain ⟨a0,b,o,cap,rfl,Rq,iz,pX,he⟩:=hx
    have yH: ∀(m:Nat),(if m=(fh.getD 0).toNat then some a0 else (some a0).map (·.add ((fh.getD 0).toNat * sz)))=
      some (if m=(fh.getD 0).toNat then a0 else a0.add ((fh.getD 0).toNat * sz)):=by
     intro m
     split<;>rfl
    have sP: ∀(m:Nat),es.length≠0→(if m=(fh.getD 0).toNat then a0 else a0.add ((fh.getD 0).toNat * sz))=⟨b,if m=(fh.getD 0).toNat then o else o+ (fh.getD 0).toNat * sz,none⟩:=by
     intro m h0
     rw [Rq h0]
     split<;>simp [eM]
    have hlen:((es.take (lV.getD es.length).toNat).drop (fh.getD 0).toNat).length=(lV.getD es.length).toNat - (fh.getD 0).toNat:=by
     simp only [List.length_drop,List.length_take]; omega
    have gA: ∀(m:Nat),(lV.getD es.length).toNat≤m→gO w S ((es.take (lV.getD es.length).toNat).drop (fh.getD 0).toNat) sz b (if m=(fh.getD 0).toNat then o else o+ (fh.getD 0).toNat * sz):=by
     intro m hm
     split
     ·rename_i hml
      have :(es.take (lV.getD es.length).toNat).drop (fh.getD 0).toNat=[]:=by
       apply List.eq_nil_of_length_eq_zero
       rw [hlen]; omega
      rw [this]; simp only [gO]
     ·exact gO.drop_take he _ _
    split at h
    ·simp only [Option.some.injEq] at h; subst h
     simp only [Option.getD_none] at bU
     have :=bU (some a0) es.length cap c0 c1 (by omega) (by omega) (by simp)
     refine ⟨_,this,?_⟩
     simp only [aE,aW]
     rw [yH]
     refine ⟨_,b,_,((cap:Int)).toNat - (fh.getD 0).toNat,by simp only [hlen],fun h0=>sP _ (by rw [hlen] at h0; omega),?_,?_,gA ((cap:Int)).toNat (by omega)⟩
     ·rw [hlen]; omega
     ·intro hk
      split at hk
      ·rename_i hh
       rw [hlen]
       have :=pX hh.2
       omega
      ·cases hk
    ·rename_i m
     split at h
     ·rename_i hmh
      simp only [Option.some.injEq] at h; subst h
      simp only [Option.getD_some] at bU
      have :=bU (some a0) es.length cap c0 c1 (by omega) (by omega) (by simpa using hmh.1)
      refine ⟨_,this,?_⟩
      simp only [aE,aW]
      rw [yH]
      refine ⟨_,b,_,m.toNat - (fh.getD 0).toNat,by simp only [hlen],fun h0=>sP _ (by rw [hlen] at h0; omega),?_,?_,gA m.toNat (by omega)⟩
      ·rw [hlen]; omega
      ·intro _
       rw [hlen]
       omega
     ·cases h
   ·cases h
  ·
   rename_i k bd es
   split at h
   ·rename_i hc
    obtain ⟨hz,c0,c1,c2⟩:=hc
    replace hx:=yC hz hx
    simp only [aE] at hx
    rcases hx.ag with ⟨rfl,rfl⟩ | hx
    ·simp only [List.length_nil] at c1 c2
     have Rr:fh.getD 0=0:=by omega
     have hh0:lV.getD ((0:Nat) :Int)=0:=by omega
     have hm0:CJ.getD ((0:Nat) :Int)=0∧(CJ.isSome=true→lV.isSome=true):=by
      cases CJ with
      | none=>simp
      | some m=>
       simp only [List.length_nil] at h
       split at h
       ·rename_i h5
        refine ⟨by simp only [Option.getD_some]; omega,fun _=>h5.1⟩
       ·cases h
     have da: ∃q,av= .d (.ag q sz []):=by
      split at h
      ·simp only [Option.some.injEq] at h
       exact ⟨false,by rw [← h]; simp⟩
      ·split at h
       ·simp only [Option.some.injEq] at h
        exact ⟨true,by rw [← h]; simp⟩
       ·cases h
     obtain ⟨q,rfl⟩:=da
     have :=bU none 0 0 (by omega) (by omega) (by omega) (by omega) hm0.2
     refine ⟨_,this,?_⟩
     simp only [aE,aW]
     left
     have hh1:lV.getD 0=0:=hh0
     have Iy:CJ.getD 0=0:=hm0.1
     simp [Rr,hh1,Iy]
    simp only [aW] at hx
    obtain ⟨a0,b,o,cap,rfl,Rq,iz,pX,he⟩:=hx
    have yH: ∀(m:Nat),(if m=(fh.getD 0).toNat then some a0 else (some a0).map (·.add ((fh.getD 0).toNat * sz)))=
      some (if m=(fh.getD 0).toNat then a0 else a0.add ((fh.getD 0).toNat * sz)):=by
     intro m
     split<;>rfl
    have sP: ∀(m:Nat),es.length≠0→(if m=(fh.getD 0).toNat then a0 else a0.add ((fh.getD 0).toNat * sz))=⟨b,if m=(fh.getD 0).toNat then o else o+ (fh.getD 0).toNat * sz,none⟩:=by
     intro m h0
     rw [Rq h0]
     split<;>simp [eM]
    have hlen:((es.take (lV.getD es.length).toNat).drop (fh.getD 0).toNat).length=(lV.getD es.length).toNat - (fh.getD 0).toNat:=by
     simp only [List.length_drop,List.length_take]; omega
    have gA: ∀(m:Nat),(lV.getD es.length).toNat≤m→gO w S ((es.take (lV.getD es.length).toNat).drop (fh.getD 0).toNat) sz b (if m=(fh.getD 0).toNat then o else o+ (fh.getD 0).toNat * sz):=by
     intro m hm
     split
     ·rename_i hml
      have :(es.take (lV.getD es.length).toNat).drop (fh.getD 0).toNat=[]:=by
       apply List.eq_nil_of_length_eq_zero
       rw [hlen]; omega
      rw [this]; simp only [gO]
     ·exact gO.drop_take he _ _
    split at h
    ·simp only [Option.some.injEq] at h; subst h
     simp only [Option.getD_none] at bU
     have :=bU (some a0) es.length cap c0 c1 (by omega) (by omega) (by simp)
     refine ⟨_,this,?_⟩
     simp only [aE,aW]
     right
     rw [yH]
     refine ⟨_,b,_,((cap:Int)).toNat - (fh.getD 0).toNat,by simp only [hlen],fun h0=>sP _ (by rw [hlen] at h0; omega),?_,?_,gA ((cap:Int)).toNat (by omega)⟩
     ·rw [hlen]; omega
     ·intro hk
      cases hk
    ·rename_i m
     split at h
     ·rename_i hmh
      simp only [Option.some.injEq] at h; subst h
      simp only [Option.getD_some] at bU
      have :=bU (some a0) es.length cap c0 c1 (by omega) (by omega) (by simpa using hmh.1)
      refine ⟨_,this,?_⟩
      simp only [aE,aW]
      right
      rw [yH]
      refine ⟨_,b,_,m.toNat - (fh.getD 0).toNat,by simp only [hlen],fun h0=>sP _ (by rw [hlen] at h0; omega),?_,?_,gA m.toNat (by omega)⟩
      ·rw [hlen]; omega
      ·intro _
       rw [hlen]
       omega
     ·cases h
   ·cases h
  ·
   rename_i s bd off n
   split at h
   ·rename_i hc
    obtain ⟨rfl,c0,c1,c2,c3⟩:=hc
    have c4:fh.getD 0 < lV.getD n∨fh.getD 0=0∨(fh.getD 0=lV.getD n∧0 < fh.getD 0):=by omega
    simp only [Option.some.injEq] at h; subst h
    simp only [aE] at hx
    obtain ⟨ad,cap,rfl,hb,iz,hnc,uA⟩:=hx
    subst c3
    simp only [Option.getD_none] at bU
    have :=bU (some ad) n cap c0 c1 (by omega) (by omega) (by simp)
    refine ⟨_,this,?_⟩
    simp only [aE]
    rcases c4 with c4 | c4 | c4
    ·have ha:=hb (.inl (by omega))
     subst ha
     refine ⟨⟨(ρ s).1,(off+ (fh.getD 0).toNat) * sz,none⟩,((cap:Int)).toNat - (fh.getD 0).toNat,?_,fun _=>rfl,?_,?_,rfl⟩
     ·rw [if_neg (by omega)]
      simp only [Option.map_some,eM,Nat.add_mul]
      congr 1
      omega
     ·intro h0
      have :=iz (by omega)
      omega
     ·omega
    ·have hz:(fh.getD 0).toNat=0:=by omega
     refine ⟨ad,cap,?_,?_,?_,by omega,uA⟩
     ·rw [hz]
      simp only [Nat.zero_mul,Nat.sub_zero,Int.toNat_natCast]
      have :(if cap=0 then some ad else (some ad).map fun x=>x.add 0)=some ad:=by split<;>simp [Addr.add]
      rw [this]
      congr 1
      omega
     ·intro hh
      rw [hz,Nat.add_zero]
      apply hb
      rcases hh with hh | hh
      ·left; omega
      ·right; omega
     ·intro h0
      exact iz (by omega)
    ·refine ⟨if ((cap:Int)).toNat=(fh.getD 0).toNat then ad else ad.add ((fh.getD 0).toNat * sz),((cap:Int)).toNat - (fh.getD 0).toNat,?_,?_,?_,by omega,?_⟩
     ·congr 1
      split
      ·rfl
      ·rfl
      ·omega
     ·intro hh
      omega
     ·intro h0
      omega
     ·split
      ·exact uA
      ·unfold Addr.add
       split<;>first | exact uA | rfl
   ·cases h
  ·cases h
 ·cases h
theorem nH (hI:Inv w0 S0 N ρ S st a w) (fs:Array Field) (lW:List (Nat×Nat)) (hp:fs.toList.mapM (fun f=>(P.info? f.type).map fun i=>(f.offset,i.size))=some lW) :
  ∀(parts:List (Nat×Operand)) (pL:List (Nat×Nat×AX)) (cells r:List AV) (us:List Value),bm (uZ P fs) parts=some pL→aS w S ρ cells us→k6 st cells pL=some r→
   ∃vs:List Value,Instr.fill (lW.toArray[·]?) us.toArray (parts.map fun (i,x)=>(i,a.eval x))=some vs.toArray∧aS w S ρ r vs
 | [],pL,cells,r,us,hm,hl,h=>by
  simp only [bm,Option.some.injEq] at hm; subst hm
  simp only [k6,Option.some.injEq] at h; subst h
  exact ⟨us,by simp [Instr.fill],hl⟩
 | (i,x)::parts,pL,cells,r,us,hm,hl,h=>by
  simp only [bm] at hm
  cases hc:uZ P fs (i,x) with
  | none=>simp [hc] at hm
  | some ap=>
   cases Ap:bm (uZ P fs) parts with
   | none=>simp [hc,Ap] at hm
   | some MX=>
    simp only [hc,Ap,Option.some.injEq] at hm
    subst hm
    unfold uZ at hc
    dsimp only at hc
    cases hf:fs[i]? with
    | none=>simp [hf] at hc
    | some f=>
     cases hx:js x with
     | none=>simp [hf,hx] at hc
     | some ax=>
      simp only [hf,hx,Option.map_eq_some_iff] at hc
      obtain ⟨n,hn,rfl⟩:=hc
      simp only [k6] at h
      split at h
      ·rename_i c8
       obtain ⟨k1,k2,k3⟩:=c8
       have hv:=bh hI hx
       have jo:=aE.cells hv k3
       have CK:=aS.length _ _ jo
       have nJ:=aS.length _ _ hl
       have abG:(a.eval x).cells.size=(ax.ev st).cells.length:=by simpa using CK
       have wU:lW[i]? =some (f.offset,n):=by
        obtain ⟨b,uH,rW⟩:=Eh hp i f (by simpa using hf)
        unfold cG at hn
        simp only [Option.map_eq_some_iff] at hn
        obtain ⟨ii,AT,rfl⟩:=hn
        simp only [AT,Option.map_some,Option.some.injEq] at rW
        rw [uH,← rW]
       have jR:aS w S ρ (aU cells f.offset (ax.ev st).cells) (aU us f.offset (a.eval x).cells.toList):=by
        refine aS.mk _ _ (by simp only [aU,List.length_append,List.length_take,List.length_drop,CK,nJ]) fun j c u hc hu=> ?_
        exact AU (R:=aE w S ρ) _ _ f.offset _ _ (by omega) (by omega) (fun j c u h1 h2=>by
         obtain ⟨u',g7,hr⟩:=aS.at _ _ hl j c h1
         rw [h2] at g7; simp only [Option.some.injEq] at g7; subst g7; exact hr) (fun j c u h1 h2=>by
         obtain ⟨u',g7,hr⟩:=aS.at _ _ jo j c h1
         rw [h2] at g7; simp only [Option.some.injEq] at g7; subst g7; exact hr) j c u hc hu
       obtain ⟨vs,h1,h2⟩:=nH hI fs lW hp parts MX _ r _ Ap jR h
       refine ⟨vs,?_,h2⟩
       have hz:(a.eval x).cells.size=n:=by omega
       have F9:((a.eval x).cells.zipIdx.foldl (fun cs (c,j)=>cs.setIfInBounds (f.offset+j) c) us.toArray)=(aU us f.offset (a.eval x).cells.toList).toArray:=by
        exact qT us f.offset (a.eval x).cells (by omega)
       simp only [List.map_cons,Instr.fill,List.getElem?_toArray,wU]
       rw [if_neg (by simp [hz]; omega),F9]
       simpa using h1
      ·cases h
where
 Eh {α β:Type} {f:α→Option β} {l:List α} {r:List β} (h:l.mapM f=some r) (i:Nat) (x:α) (hx:l[i]? =some x) : ∃b,r[i]? =some b∧f x=some b:=by
  have h1:=mapM_some_get h i x hx
  have h2:=mapM_some_length h
  have hi:i < r.length:=by rw [h2]; exact (List.getElem?_eq_some_iff.1 hx).1
  exact ⟨r[i],List.getElem?_eq_getElem hi,by rw [h1,List.getElem?_eq_getElem hi]⟩
 AU {α β:Type} {R:α→β→Prop} (e:List α) (f:List β) (off:Nat) (cs:List α) (ds:List β) (hl:cs.length=ds.length) (he:e.length=f.length)
   (h1: ∀(j:Nat) c u,e[j]? =some c→f[j]? =some u→R c u) (h2: ∀(j:Nat) c u,cs[j]? =some c→ds[j]? =some u→R c u) (j:Nat) (c:α) (u:β)
   (hc:(aU e off cs)[j]? =some c) (hu:(aU f off ds)[j]? =some u) :R c u:=by
  unfold aU at hc hu
  simp only [List.append_assoc,List.getElem?_append,List.length_take,List.getElem?_take,List.getElem?_drop] at hc hu
  rw [he,hl] at hc
  split at hc
  ·rename_i hj
   rw [if_pos hj] at hu
   rw [if_pos (by omega)] at hc hu
   exact h1 j c u hc hu
  ·rename_i hj
   rw [if_neg hj] at hu
   split at hc
   ·rename_i hj2
    rw [if_pos hj2] at hu
    exact h2 _ c u hc hu
   ·rename_i hj2
    rw [if_neg hj2] at hu
    exact h1 _ c u hc hu
 qT (us:List Value) (off:Nat) (cs:Array Value) (h:off+cs.size≤us.length) :
   (cs.zipIdx.foldl (fun xs (c,j)=>xs.setIfInBounds (off+j) c) us.toArray)=(aU us off cs.toList).toArray:=by
  rw [← Array.foldl_toList,Array.toList_zipIdx]
  have key: ∀(l:List Value) (k:Nat) (us:List Value),off+k+l.length≤us.length→
    (l.zipIdx k).foldl (fun (xs:Array Value) (c,j)=>xs.setIfInBounds (off+j) c) us.toArray=(us.take (off+k)++l++us.drop (off+k+l.length)).toArray:=by
   intro l
   induction l with
   | nil=>intro k us _; simp
   | cons v l ih=>
    intro k us hk
    simp only [List.length_cons] at hk
    simp only [List.zipIdx_cons,List.foldl_cons,List.setIfInBounds_toArray]
    rw [ih (k+1) (us.set (off+k) v) (by simp; omega)]
    have :=list_seg_step us (off+k) v l (by omega)
    rw [show off+ (k+1)=off+k+1 by omega,this]
    simp only [List.length_cons]
  simpa [aU] using key cs.toList 0 us (by simpa using h)
theorem lX: ∀(cs:List AV) (ds:aw),dH cs=some ds→cs=ds.map .d
 | [],ds,h=>by simp only [dH,Option.some.injEq] at h; subst h; rfl
 | .d x::cs,ds,h=>by
  simp only [dH,Option.map_eq_some_iff] at h
  obtain ⟨m,hm,rfl⟩:=h
  rw [List.map_cons,lX cs m hm]
 | .ah _ _ _ _::_,_,h=>by simp [dH] at h
 | .ptr _ _ _ _::_,_,h=>by simp [dH] at h
 | .func _ _::_,_,h=>by simp [dH] at h
 | .agg _::_,_,h=>by simp [dH] at h
 | .tuple _::_,_,h=>by simp [dH] at h
 | .w _ _ _::_,_,h=>by simp [dH] at h
 | .undef::_,_,h=>by simp [dH] at h
theorem AW {r:List AV} {vs:List Value} (h:aS w S ρ r vs) :aE w S ρ (uU r) (.agg vs.toArray):=by
 unfold uU
 split
 ·rename_i ds hd
  simp only [aE,aW]
  exact ⟨vs,rfl,aS.dH r ds vs hd h⟩
 ·simp only [aE]
  exact ⟨vs,rfl,h⟩
theorem yI (hI:Inv w0 S0 N ρ S st a w) {t:TypeId} {fs:Array Field} {z:aw} (ht:P.underlying t=some (.struct fs)) (hz:fC P t=some z)
  (iU:fs.toList.all (fun f=>(cG P f.type).isSome)=true) {parts:Array (Nat×Operand)} {pL:List (Nat×Nat×AX)} (hm:bm (uZ P fs) parts.toList=some pL) {r:List AV}
  (h:k6 st (z.map .d) pL=some r) : ∃u,(Instr.build t (parts.map fun (i,x)=>(i,a.eval x))).run P w= .ok u w∧aE w S ρ (uU r) u:=by
 unfold fC at hz
 cases hi:P.info? t with
 | none=>simp [hi] at hz
 | some it=>
  cases pY:it.zero with
  | none=>simp [hi,pY] at hz
  | some zv=>
   simp only [hi,pY] at hz
   have hcz:=iy w S hz
   have AY: ∃lW,fs.toList.mapM (fun f=>(P.info? f.type).map fun i=>(f.offset,i.size))=some lW:=by
    rw [List.all_eq_true] at iU
    generalize fs.toList=l at iU
    induction l with
    | nil=>exact ⟨[],rfl⟩
    | cons f l ih=>
     obtain ⟨ps,hps⟩:=ih (fun x hx=>iU x (by simp [hx]))
     have hf:=iU f (by simp)
     unfold cG at hf
     simp only [Option.isSome_map] at hf
     obtain ⟨ii,AT⟩:=Option.isSome_iff_exists.1 hf
     exact ⟨(f.offset,ii.size)::ps,by simp [List.mapM_cons,AT,hps]⟩
   obtain ⟨lW,hp⟩:=AY
   obtain ⟨vs,hv1,hv2⟩:=nH hI fs lW hp parts.toList pL _ r zv.cells.toList hm (cg.CH z _ hcz.1) h
   refine ⟨.agg vs.toArray,?_,AW hv2⟩
   refine run_build w t _ vs.toArray ?_
   unfold Program.built
   simp only [hi,ht,pY,hp]
   simpa using hv1
theorem AZ (hI:Inv w0 S0 N ρ S st a w) {f:FuncId} {caps:Array Operand} {Rs:List AX} (hm:bm js caps.toList=some Rs) :
  ∃u,(Instr.makeFunc (.func f) #[] (caps.map a.eval)).run P w= .ok u w∧
   aE w S ρ (match dH (Rs.map (·.ev st)) with | some ds=> .d (.func f ds) | none=> .func f (Rs.map (·.ev st))) u:=by
 have hl:=eU hI hm
 refine ⟨.func (.func f) #[] (caps.map a.eval),by simp [Instr.makeFunc],?_⟩
 split
 ·rename_i ds hd
  simp only [aE,aW]
  exact ⟨caps.toList.map a.eval,by rw [← Array.toList_map,Array.toArray_toList],aS.dH _ _ _ hd hl⟩
 ·simp only [aE]
  exact ⟨caps.toList.map a.eval,by rw [← Array.toList_map,Array.toArray_toList],hl⟩
end
theorem yJ (n sz:Nat) (f:Nat→Nat→Value→Prop) (h: ∀i j,i < n→j < sz→ ∃u,f i j u) :
  ∃us:List Value,us.length=n * sz∧ ∀(i j:Nat),i < n→j < sz→ ∃u,us[i * sz+j]? =some u∧f i j u:=by
 induction n with
 | zero=>exact ⟨[],by simp,fun i j hi=>by omega⟩
 | succ n ih=>
  obtain ⟨us,hl,hu⟩:=ih fun i j hi hj=>h i j (by omega) hj
  let row:List Value:=(List.range sz).map fun j=>if hj:j < sz then (h n j (by omega) hj).choose else undef
  refine ⟨us++row,by simp [row,hl,Nat.add_mul],fun i j hi hj=> ?_⟩
  by_cases Aq:i < n
  ·obtain ⟨u,h1,h2⟩:=hu i j Aq hj
   refine ⟨u,?_,h2⟩
   rw [List.getElem?_append_left (List.getElem?_eq_some_iff.1 h1).1]
   exact h1
  ·have :i=n:=by omega
   subst this
   refine ⟨(h i j (by omega) hj).choose,?_,(h i j (by omega) hj).choose_spec⟩
   rw [List.getElem?_append_right (by rw [hl]; omega),hl,show i * sz+j - i * sz=j by omega]
   simp [row,hj]
theorem pZ {i n j sz:Nat} (hi:i < n) (hj:j < sz) :i * sz+j < n * sz:=by
 have :=Nat.mul_le_mul_right sz (show i+1≤n by omega)
 rw [Nat.add_mul] at this
 omega
def Flat (R:AV→Value→Prop) (sz:Nat) (rows:List (List AV)) (us:List Value) :Prop:=
 us.length=rows.length * sz∧(∀e∈rows,e.length=sz∧e.all AV.one=true)∧
  ∀(i j:Nat) e c,rows[i]? =some e→e[j]? =some c→ ∃u,us[i * sz+j]? =some u∧R c u
theorem p6: ∀(rows:List (List AV)) (ds:aj),g5 rows=some ds→rows=ds.map (·.map .d)
 | [],ds,h=>by simp only [g5,Option.some.injEq] at h; subst h; rfl
 | e::l,ds,h=>by
  simp only [g5] at h
  cases h1:dH e with
  | none=>simp [h1] at h
  | some a=>
   cases h2:g5 l with
   | none=>simp [h1,h2] at h
   | some b=>
    simp only [h1,h2,Option.some.injEq] at h
    subst h
    rw [List.map_cons,lX e a h1,p6 l b h2]
section
variable {P:Program} {w0:dw} {S0:Nat→Nat→Prop} {N:Nat} {ρ:Nat→Nat×Nat} {S:Nat→Nat→Prop} {st:St} {a:Act} {w:World}
theorem lY {B:Nat→Prop} {s el sz cap blk:Nat} {rows:List (List AV)} {cur:Array Value} (hρ:ρ s=(blk,cap)) (hB: ¬ B blk) (cS:w.heap[blk]? =some (.cells cur el (0,0)))
  (iq:cur.size=cap * sz) (hn:rows.length≤cap) (iz:cap≤maxLen) (hS: ∀o,¬ S blk o) (bj: ∀e∈rows,e.length=sz∧e.all AV.one=true)
  (hc: ∀(i j:Nat) e c,rows[i]? =some e→e[j]? =some c→ ∃u,cur[i * sz+j]? =some u∧aE w S ρ c u) :bO B w S ρ s (kg el sz rows):=by
 have MY: ∀(i j:Nat),i < rows.length→j < sz→ ∃e c,rows[i]? =some e∧e[j]? =some c:=by
  intro i j hi hj
  have hlen:=(bj _ (List.getElem_mem hi)).1
  exact ⟨rows[i],rows[i][j]'(by omega),List.getElem?_eq_getElem hi,List.getElem?_eq_getElem (by omega)⟩
 unfold kg
 split
 ·rename_i ds fi
  have hm:=p6 rows ds fi
  subst hm
  refine ⟨?_,?_⟩
  ·intro e he
   have :=bj (e.map .d) (List.mem_map.2 ⟨e,he,rfl⟩)
   simp only [List.length_map,List.all_map] at this
   exact ⟨this.1,by rw [← this.2]; congr⟩
  ·rw [hρ]
   simp only [List.length_map] at hn MY
   refine ⟨hB,⟨cur,cS,iq,fun i j hi hj=> ?_⟩,hn,iz,hS⟩
   obtain ⟨e,c,he,pV⟩:=MY i j hi hj
   obtain ⟨u,hu,hr⟩:=hc i j e c he pV
   refine ⟨u,hu,fun e' c' bF gF=> ?_⟩
   simp only [List.getElem?_map,bF,Option.map_some,Option.some.injEq] at he
   subst he
   simp only [List.getElem?_map,gF,Option.map_some,Option.some.injEq] at pV
   subst pV
   simpa only [aE] using hr
 ·refine ⟨bj,?_⟩
  rw [hρ]
  refine ⟨hB,⟨cur,cS,iq,fun i j hi hj=> ?_⟩,hn,iz,hS⟩
  obtain ⟨e,c,he,pV⟩:=MY i j hi hj
  obtain ⟨u,hu,hr⟩:=hc i j e c he pV
  refine ⟨u,hu,fun e' c' bF gF=> ?_⟩
  rw [he] at bF
  simp only [Option.some.injEq] at bF
  subst bF
  rw [pV] at gF
  simp only [Option.some.injEq] at gF
  subst gF
  exact hr
theorem jS {B:Nat→Prop} {s el sz cap blk:Nat} {es:aj} {cur:Array Value} (hρ:ρ s=(blk,cap)) (hB: ¬ B blk) (cS:w.heap[blk]? =some (.cells cur el (0,0)))
  (iq:cur.size=cap * sz) (hn:es.length≤cap) (iz:cap≤maxLen) (hS: ∀o,¬ S blk o) (bj: ∀e∈es,e.length=sz∧e.all DV.one=true)
  (hc: ∀(i j:Nat) e c,es[i]? =some e→e[j]? =some c→ ∃u,cur[i * sz+j]? =some u∧aW w S c u) :bO B w S ρ s (.aC el sz es):=by
 refine ⟨bj,?_⟩
 rw [hρ]
 refine ⟨hB,⟨cur,cS,iq,fun i j hi hj=> ?_⟩,hn,iz,hS⟩
 have hlen:=(bj _ (List.getElem_mem hi)).1
 obtain ⟨u,hu,hr⟩:=hc i j es[i] (es[i][j]'(by omega)) (List.getElem?_eq_getElem hi) (List.getElem?_eq_getElem (by omega))
 refine ⟨u,hu,fun e' c' bF gF=> ?_⟩
 rw [List.getElem?_eq_getElem hi] at bF
 simp only [Option.some.injEq] at bF
 subst bF
 rw [List.getElem?_eq_getElem (by omega)] at gF
 simp only [Option.some.injEq] at gF
 subst gF
 exact hr
theorem Inv.MZ (hI:Inv w0 S0 N ρ S st a w) {t:Nat} (ht:t < N) {av:AV} {v:Value} (hv:(∀t want x,av≠ .w t want x)→aE w S ρ av v)
  (hw: ∀t' want x,av= .w t' want x→(a.put (some t) v).tmps[t']? =some (.bool want)→aE w S ρ x v)
  (hn: ∀t' want x,av= .w t' want x→(a.put (some t) v).tmps[t']? ≠some (.bool want)→v=undef) :Inv w0 S0 N ρ S (st.put t av) (a.put (some t) v) w:=by
 have iq:=hI.size
 have An:(a.put (some t) v).tmps.getD t undef=v:=by simp [Act.put,Array.getD_eq_getD_getElem?,iq,ht]
 have cu: ∀n,n≠t→(a.put (some t) v).tmps[n]? =a.tmps[n]? :=fun n hn=>by simp [Act.put,Array.getElem?_setIfInBounds_ne (Ne.symm hn)]
 have Ei: ∀n,n≠t→(a.put (some t) v).tmps.getD n undef=a.tmps.getD n undef:=fun n hn=>by
  rw [Array.getD_eq_getD_getElem?,Array.getD_eq_getD_getElem?,cu n hn]
 refine ⟨by simp [Act.put,hI.size],by simp [Act.put,hI.defers],fun n=> ?_,fun n t' want x he h=> ?_,fun n t' want x he h=> ?_,hI.aT,hI.apart,hI.live,hI.up,hI.new,hI.below,hI.small,hI.pins⟩
 ·simp only [St.put]
  by_cases hn:n=t
  ·subst hn
   rw [if_pos rfl,An]
   by_cases da: ∃t want x,av= .w t want x
   ·obtain ⟨t,want,x,rfl⟩:=da
    simp only [aE]
   ·exact hv fun t want x he=>da ⟨t,want,x,he⟩
  ·rw [if_neg hn,Ei n hn]
   have :=hI.env n
   cases he:st.env n<;>simp only [he,AV.cH] at this ⊢ <;>try exact this
   split<;>simp only [aE]
 ·simp only [St.put] at he
  by_cases hn:n=t
  ·subst hn
   rw [if_pos rfl] at he
   rw [An]
   exact hw t' want x he h
  ·rw [if_neg hn] at he
   rw [Ei n hn]
   cases uI:st.env n<;>simp only [uI,AV.cH,reduceCtorEq] at he
   rename_i t2 yK x2
   split at he
   ·cases he
   ·rename_i QA
    simp only [AV.w.injEq] at he
    obtain ⟨rfl,rfl,rfl⟩:=he
    rw [cu t2 QA] at h
    exact hI.fV n t2 yK x2 uI h
 ·simp only [St.put] at he
  by_cases A4:n=t
  ·subst A4
   rw [if_pos rfl] at he
   rw [An]
   exact hn t' want x he h
  ·rw [if_neg A4] at he
   rw [Ei n A4]
   cases uI:st.env n<;>simp only [uI,AV.cH,reduceCtorEq] at he
   rename_i t2 yK x2
   split at he
   ·cases he
   ·rename_i QA
    simp only [AV.w.injEq] at he
    obtain ⟨rfl,rfl,rfl⟩:=he
    rw [cu t2 QA] at h
    exact hI.kx n t2 yK x2 uI h
theorem Inv.put (hI:Inv w0 S0 N ρ S st a w) {t:Nat} (ht:t < N) {av:AV} {v:Value} (hv:aE w S ρ av v) (hw: ∀t' want x,av= .w t' want x→False:=by intro _ _ _ h; cases h) :Inv w0 S0 N ρ S (st.put t av) (a.put (some t) v) w:=
 hI.MZ ht (fun _=>hv) (fun t' want x he=>(hw t' want x he).elim) fun t' want x he=>(hw t' want x he).elim
theorem Inv.uE (hI:Inv w0 S0 N ρ S st a w) {t:Option Nat} (ht: ∀d,t=some d→d < N) {v:Value} :Inv w0 S0 N ρ S (st.uE t .undef) (a.put t v) w:=by
 cases t with
 | none=>exact hI
 | some d=>exact hI.put (ht d rfl) (by simp only [aE])
theorem Inv.drop (hI:Inv w0 S0 N ρ S st a w) (s:Nat) :Inv w0 S0 N ρ S (st.drop s) a w:=by
 refine ⟨hI.size,hI.defers,hI.env,hI.fV,hI.kx,fun n o hn=> ?_,fun n m o o' hn hm=> ?_,hI.live,hI.up,hI.new,hI.below,hI.small,hI.pins⟩
 ·simp only [St.drop] at hn
  split at hn
  ·cases hn
  ·exact hI.aT n o hn
 ·simp only [St.drop] at hn hm
  split at hn
  ·cases hn
  ·split at hm
   ·cases hm
   ·exact hI.apart n m o o' hn hm
theorem Inv.drew (hI:Inv w0 S0 N ρ S st a w) (k:Nat) :Inv w0 S0 N ρ S st a {w with drawn:=k}:=by
 have hk:Kept w {w with drawn:=k} S S:=⟨fun _ _ h=>h,fun _ _ _ _ h=>h⟩
 refine ⟨hI.size,hI.defers,fun t=>aE.kept hk _ _ (hI.env t),fun n t want v he h=>aE.kept hk _ _ (hI.fV n t want v he h),hI.kx,fun s o hs=>bO.kept hk (hI.aT s o hs) rfl (hI.aT s o hs).lt.2.2,hI.apart,hI.live,hI.up,hI.new,?_,hI.small,hI.pins⟩
 exact ⟨hI.below.os,hI.below.tape,hI.below.output,hI.below.size,hI.below.block⟩
theorem bO.site {B:Nat→Prop} {s t:Nat} {ρ':Nat→Nat×Nat} {o o':Ob} (hρ: ∀n,n≠t→ρ' n=ρ n) (gn:s≠t) (ho:Ob.kill t o=some o') (h:bO B w S ρ s o) :bO B w S ρ' s o':=by
 unfold Ob.kill at ho
 split at ho
 ·cases ho
 ·rename_i hh
  simp only [Option.some.injEq] at ho
  subst ho
  cases o with
  | aC el sz es=>
   refine ⟨h.1,?_⟩
   rw [hρ s gn]
   exact h.2
  | mix el sz es=>
   refine ⟨h.1,?_⟩
   rw [hρ s gn]
   refine h.2.mono rfl h.2.apart fun i j u hu e c he hc=>aE.site t hρ c u ?_ (hu e c he hc)
   simp only [Ob.has,Bool.not_eq_true,List.any_eq_false] at hh
   have :=hh e (List.mem_of_getElem? he)
   have key: ∀(l:List AV),eJ t l=false→ ∀c∈l,c.has t=false:=by
    intro l
    induction l with
    | nil=>simp
    | cons x l ih=>
     intro hl c hc
     simp only [eJ,Bool.or_eq_false_iff] at hl
     rcases List.mem_cons.1 hc with rfl | hc
     ·exact hl.1
     ·exact ih hl.2 c hc
   exact key e (by simpa using this) c (List.mem_of_getElem? hc)
theorem Inv.fl (hI:Inv w0 S0 N ρ S st a w) {t:Nat} (ht:t < N) :t % 100000≠99999:=by
 have :=hI.small
 omega
theorem Inv.at_ (hI:Inv w0 S0 N ρ S st a w) {t:Nat} (hp:t % 100000≠99999) {ob:Ob} {g cap:Nat} {w1:World} (fm:bJ w0.gz w w1) (hold: ∀k,k < w.heap.size→k≠g→w1.heap[k]? =w.heap[k]?)
  (lZ: ∀s o,st.aT s=some o→(ρ s).1≠g) (hg: ∀o,¬ S g o)
  (Lu:bO w0.gz w1 S (fun n=>if n=t then (g,cap) else ρ n) t ob) :Inv w0 S0 N (fun n=>if n=t then (g,cap) else ρ n) S (st.at_ t ob) a w1:=by
 have hρ: ∀n,n≠t→(fun n=>if n=t then (g,cap) else ρ n) n=ρ n:=fun n hn=>by simp [hn]
 have hk:Kept w w1 S S:=⟨fun _ _ h=>h,fun b o hb u hu=>by
  have I8:b≠g:=fun e=>hg o (e ▸ hb)
  rw [World.cell?] at hu ⊢
  rw [hold b (hI.live b o hb) I8]; exact hu⟩
 refine ⟨hI.size,hI.defers,fun n=> ?_,fun n t' want v he h=> ?_,fun n t' want v he h=> ?_,fun n o hn=> ?_,fun n m o o' hn hm he=> ?_,fun b o hb=>Nat.lt_of_lt_of_le (hI.live b o hb) fm.size,hI.up,hI.new,hI.below.trans fm,hI.small,fun n hn=>by rw [if_neg fun e=>hp (by rw [← e]; exact hn)]; exact hI.pins n hn⟩
 ·exact aE.kill t hρ _ _ (aE.kept hk _ _ (hI.env n))
 ·simp only [St.at_,AV.kill] at he
  split at he
  ·cases he
  ·rename_i hh
   have gQ:v.has t=false:=by
    rw [he] at hh
    simpa only [AV.has,Bool.not_eq_true] using hh
   exact aE.site t hρ v _ gQ (aE.kept hk _ _ (hI.fV n t' want v he h))
 ·simp only [St.at_,AV.kill] at he
  split at he
  ·cases he
  ·exact hI.kx n t' want v he h
 ·simp only [St.at_] at hn
  by_cases A4:n=t
  ·subst A4
   simp only [if_true,Option.some.injEq] at hn
   subst hn
   exact Lu
  ·simp only [A4,if_false] at hn
   cases hs:st.aT n with
   | none=>simp [hs] at hn
   | some o1=>
    simp only [hs,Option.bind_some] at hn
    have h1:=hI.aT n o1 hs
    exact bO.site hρ A4 hn (bO.kept hk h1 (hold _ h1.lt.2.1 (lZ n o1 hs)) h1.lt.2.2)
 ·simp only [St.at_] at hn hm
  by_cases A4:n=t
  ·by_cases QB:m=t
   ·omega
   ·simp only [QB,if_false] at hm
    cases hs:st.aT m with
    | none=>simp [hs] at hm
    | some o1=>
     simp only [A4,QB,if_true,if_false] at he
     exact absurd he.symm (lZ m o1 hs)
  ·simp only [A4,if_false] at hn
   cases hs:st.aT n with
   | none=>simp [hs] at hn
   | some o1=>
    by_cases QB:m=t
    ·simp only [A4,QB,if_true,if_false] at he
     exact absurd he (lZ n o1 hs)
    ·simp only [QB,if_false] at hm
     cases QC:st.aT m with
     | none=>simp [QC] at hm
     | some o2=>
      simp only [A4,QB,if_false] at he
      exact hI.apart n m o1 o2 hs QC he
theorem iA (w:World) (B:Nat) (h:B≤w.heap.size) (o:Obj) :Below B w (w.alloc o):=(Below.refl B w).alloc h o
theorem Inv.alloc (hI:Inv w0 S0 N ρ S st a w) {t:Nat} (hp:t % 100000≠99999) {ob:Ob} {cap:Nat} {cs:Array Value} {el:TypeId}
  (Lu: ∀(w1:World) (ρ':Nat→Nat×Nat),w1=w.alloc (.cells cs el)→ρ'=(fun n=>if n=t then (w.heap.size,cap) else ρ n)→bO w0.gz w1 S ρ' t ob) :
  Inv w0 S0 N (fun n=>if n=t then (w.heap.size,cap) else ρ n) S (st.at_ t ob) a (w.alloc (.cells cs el)):=by
 refine hI.at_ hp (((Below.refl _ w).alloc (Nat.le_refl _) _).Ro fun k hk=>Nat.lt_of_lt_of_le (w0.lt k hk) hI.below.size) (fun k hk _=>Below.heap_alloc _ _ _ hk) (fun s o hs=> ?_) (fun o ho=> ?_) (Lu _ _ rfl rfl)
 ·have :=(hI.aT s o hs).lt.2.1
  omega
 ·have :=hI.live _ _ ho
  omega
theorem fO (hI:Inv w0 S0 N ρ S st a w) (o:Nat) : ¬ S w.heap.size o:=fun h=>by
 have :=hI.live _ _ h
 omega
theorem kz (hI:Inv w0 S0 N ρ S st a w) (o:Obj) :Kept w (w.alloc o) S S:=⟨fun _ _ h=>h,fun b p hb u hu=>by
 rw [World.cell?] at hu ⊢
 rw [Below.heap_alloc _ _ _ (hI.live b p hb)]; exact hu⟩
theorem en (w:World) (o:Obj) :(w.alloc o).heap[w.heap.size]? =some o:=by
 show (w.heap.push o)[w.heap.size]? =_
 simp
theorem sQ: ∀(l:List AV) (t:Nat),eJ t l=false→ ∀c∈l,c.has t=false
 | [],t,_,c,hc=>by cases hc
 | x::l,t,h,c,hc=>by
  simp only [eJ,Bool.or_eq_false_iff] at h
  rcases List.mem_cons.1 hc with rfl | hc
  ·exact h.1
  ·exact sQ l t h.2 c hc
theorem Ej (hI:Inv w0 S0 N ρ S st a w) {t el sz:Nat} (ht:t < N) {x:AV} {v:Value} (hx:aE w S ρ x v) (hlen:x.cells.length=sz) (fp:x.cells.all AV.one=true) (gQ:eJ t x.cells=false) :
  ∃u w1,(newVar el v).run P w= .ok u w1∧cF w0 S0 N ((st.at_ t (kg el sz [x.cells])).put t (.ptr t sz 0 0)) (a.put (some t) (.pointer (some u))) w1:=by
 have jo:=aE.cells hx fp
 have hl:=aS.length _ _ jo
 simp only [Array.length_toList] at hl
 refine ⟨⟨w.heap.size,0,none⟩,w.alloc (.cells v.cells el),by simp [newVar,newRow],?_⟩
 have hk:=kz hI (.cells v.cells el)
 have h1:=hI.alloc (t:=t) (hI.fl ht) (ob:=kg el sz [x.cells]) (cap:=1) (cs:=v.cells) (el:=el) (fun w1 ρ' hw hρ=>by
  subst hw hρ
  refine lY (blk:=w.heap.size) (cap:=1) (cur:=v.cells) (by simp) (hI.fresh (Nat.le_refl _)) (en _ _) (by omega) (by simp) (by simp [maxLen]) (fO hI) ?_ ?_
  ·intro e he
   simp only [List.mem_singleton] at he
   subst he
   exact ⟨hlen,fp⟩
  ·intro i j e c he hc
   cases i with
   | succ i=>simp at he
   | zero=>
    simp only [List.getElem?_cons_zero,Option.some.injEq] at he
    subst he
    obtain ⟨u,hu,hr⟩:=aS.at _ _ jo j c hc
    refine ⟨u,by simpa using hu,?_⟩
    exact aE.site t (fun n hn=>by simp [hn]) c u (sQ _ t gQ c (List.mem_of_getElem? hc)) (aE.kept hk c u hr))
 exact ⟨_,_,h1.put ht (by simp [aE])⟩
theorem wV {z:aw} {v:Value} (h:bm qQ v.cells.toList=some z) :cg w S z v.cells.toList:=(iy w S h).1
theorem yL (hI:Inv w0 S0 N ρ S st a w) {t el sz:Nat} (ht:t < N) {z:aw} (hz:fC P el=some z) (hlen:z.length=sz) (fp:z.all DV.one=true) :
  ∃u w1,(Instr.alloc el true (.tuple #[])).run P w= .ok u w1∧cF w0 S0 N ((st.at_ t (.aC el sz [z])).put t (.ptr t sz 0 0)) (a.put (some t) u) w1:=by
 unfold fC at hz
 cases hi:P.info? el with
 | none=>simp [hi] at hz
 | some it=>
  cases pY:it.zero with
  | none=>simp [hi,pY] at hz
  | some zv=>
   simp only [hi,pY] at hz
   have hk:=kz hI (.cells zv.cells el)
   have jo:=fun (w':World)=>wV (w:=w') (S:=S) hz
   have hl:=cg.length _ _ (jo w)
   simp only [Array.length_toList] at hl
   refine ⟨.pointer (some ⟨w.heap.size,0,none⟩),w.alloc (.cells zv.cells el),by simp [Instr.alloc,zeroValue,typeInfo,hi,pY,newVar,newRow],?_⟩
   have h1:=hI.alloc (t:=t) (hI.fl ht) (ob:= .aC el sz [z]) (cap:=1) (cs:=zv.cells) (el:=el) (fun w1 ρ' hw hρ=>by
    subst hw hρ
    refine jS (blk:=w.heap.size) (cap:=1) (cur:=zv.cells) (by simp) (hI.fresh (Nat.le_refl _)) (en _ _) (by omega) (by simp) (by simp [maxLen]) (fO hI) ?_ ?_
    ·intro e he
     simp only [List.mem_singleton] at he
     subst he
     exact ⟨hlen,fp⟩
    ·intro i j e c he hc
     cases i with
     | succ i=>simp at he
     | zero=>
      simp only [List.getElem?_cons_zero,Option.some.injEq] at he
      subst he
      obtain ⟨u,hu,hr⟩:=cg.at _ _ (jo _) j c hc
      exact ⟨u,by simpa using hu,hr⟩)
   exact ⟨_,_,h1.put ht (by simp [aE])⟩
theorem kC (hI:Inv w0 S0 N ρ S st a w) {w':World} (hb:bJ (fun k=>k < w.heap.size) w w') {S':Nat→Nat→Prop} (hS: ∀b o,S b o→S' b o) :Kept w w' S S':=⟨hS,fun b p Fo u hu=>by
 rw [World.cell?] at hu ⊢
 rw [hb.block b (hI.live b p Fo)]; exact hu⟩
theorem Inv.called (hI:Inv w0 S0 N ρ S st a w) {w':World} (hb:bJ (fun k=>k < w.heap.size) w w') {S':Nat→Nat→Prop} (hS: ∀b o,S b o→S' b o) (jR: ∀b o,S' b o→S b o∨ ¬ b < w.heap.size)
  (g8: ∀b o,S' b o→b < w'.heap.size) :Inv w0 S0 N ρ S' st a w':=by
 have hk:=kC hI hb hS
 refine ⟨hI.size,hI.defers,fun t=>aE.kept hk _ _ (hI.env t),fun n t want v he h=>aE.kept hk _ _ (hI.fV n t want v he h),hI.kx,fun s o hs=> ?_,hI.apart,g8,fun b o h=>hS b o (hI.up b o h),?_,hI.below.trans (hb.mono fun k hk=>Nat.lt_of_lt_of_le (w0.lt k hk) hI.below.size),hI.small,hI.pins⟩
 ·have hl:=(hI.aT s o hs).lt
  refine bO.kept hk (hI.aT s o hs) (hb.block _ hl.2.1) fun p hp=> ?_
  rcases jR _ _ hp with h | h
  ·exact hl.2.2 p h
  ·omega
 ·intro b o h
  rcases jR b o h with h | h
  ·exact hI.new b o h
  ·exact .inr (hI.fresh (Nat.le_of_not_lt h))
end
theorem gR {α:Type} (us:List α) (off:Nat) (cs:List α) (h:off+cs.length≤us.length) (p:Nat) :
  (aU us off cs)[p]? =if off≤p∧p < off+cs.length then cs[p - off]? else us[p]? :=by
 unfold aU
 simp only [List.append_assoc,List.getElem?_append,List.length_take,List.getElem?_take,List.getElem?_drop]
 have hm:min off us.length=off:=by omega
 rw [hm]
 by_cases h1:p < off
 ·rw [if_pos h1,if_pos h1,if_neg (by omega)]
 ·rw [if_neg h1]
  by_cases h2:p - off < cs.length
  ·rw [if_pos h2,if_pos (by omega)]
  ·rw [if_neg h2,if_neg (by omega)]
   congr 1
   omega
section
variable {P:Program} {w0:dw} {S0:Nat→Nat→Prop} {N:Nat} {ρ:Nat→Nat×Nat} {S:Nat→Nat→Prop} {st:St} {a:Act} {w:World}
theorem Flat.set {R:AV→Value→Prop} {sz i:Nat} {rows:List (List AV)} {us:List Value} {cs:List AV} {vs:List Value} (h:Flat R sz rows us) (hi:i < rows.length) (A5:cs.length=sz) (fp:cs.all AV.one=true)
  (Fp:vs.length=sz) (hR: ∀(j:Nat) c,cs[j]? =some c→ ∃u,vs[j]? =some u∧R c u) :Flat R sz (rows.set i cs) (aU us (i * sz) vs):=by
 obtain ⟨h1,h2,h3⟩:=h
 have ij:i * sz+vs.length≤us.length:=by
  rw [h1,Fp]
  have :=Nat.mul_le_mul_right sz (show i+1≤rows.length by omega)
  rw [Nat.add_mul] at this
  omega
 refine ⟨?_,?_,?_⟩
 ·simp only [aU,List.length_append,List.length_take,List.length_drop,List.length_set]
  omega
 ·intro e he
  rcases List.mem_or_eq_of_mem_set he with he | rfl
  ·exact h2 e he
  ·exact ⟨A5,fp⟩
 ·intro k j e c he hc
  have QD:j < e.length:=(List.getElem?_eq_some_iff.1 hc).1
  rw [List.getElem?_set] at he
  rw [gR _ _ _ ij]
  by_cases hk:i=k
  ·subst hk
   rw [if_pos rfl,if_pos hi] at he
   simp only [Option.some.injEq] at he
   subst he
   rw [if_pos (by omega),show i * sz+j - i * sz=j by omega]
   exact hR j c hc
  ·rw [if_neg hk] at he
   have jn:=(h2 e (List.mem_of_getElem? he)).1
   have cu: ¬ (i * sz≤k * sz+j∧k * sz+j < i * sz+vs.length):=by
    intro hh
    rcases Nat.lt_or_gt_of_ne hk with h | h
    ·have :=pZ (n:=k) (i:=i) (j:=0) (sz:=sz) h (by omega)
     have h5:=Nat.mul_le_mul_right sz (show i+1≤k by omega)
     rw [Nat.add_mul] at h5
     omega
    ·have :=pZ (n:=i) (i:=k) (j:=j) (sz:=sz) h (by omega)
     omega
   rw [if_neg cu]
   exact h3 k j e c he hc
theorem sR (hI:Inv w0 S0 N ρ S st a w) {sz len:Nat} : ∀(parts:List (Nat×Operand)) (pL:List (Nat×AX)) (rows r:List (List AV)) (us:List Value),bm lz parts=some pL→
  rows.length=len→Flat (aE w S ρ) sz rows us→dq st sz rows pL=some r→
   ∃vs:List Value,Instr.fill (fun i=>some (i * sz,sz)) us.toArray (parts.map fun (i,x)=>(i,a.eval x))=some vs.toArray∧Flat (aE w S ρ) sz r vs∧r.length=len
 | [],pL,rows,r,us,hm,hlen,hf,h=>by
  simp only [bm,Option.some.injEq] at hm; subst hm
  simp only [dq,Option.some.injEq] at h; subst h
  exact ⟨us,by simp [Instr.fill],hf,hlen⟩
 | (i,x)::parts,pL,rows,r,us,hm,hlen,hf,h=>by
  simp only [bm,lz] at hm
  cases hx:js x with
  | none=>simp [hx] at hm
  | some ax=>
   cases Ap:bm lz parts with
   | none=>simp [hx,Ap] at hm
   | some MX=>
    simp only [hx,Ap,Option.map_some,Option.some.injEq] at hm
    subst hm
    simp only [dq] at h
    split at h
    ·rename_i c8
     obtain ⟨k1,k2,k3⟩:=c8
     have hv:=bh hI hx
     have jo:=aE.cells hv k3
     have CK:=aS.length _ _ jo
     have fW:(a.eval x).cells.size=sz:=by
      simp only [Array.length_toList] at CK
      omega
     have jR:=hf.set k2 k1 k3 (vs:=(a.eval x).cells.toList) (by simpa using fW) (fun j c hc=>aS.at _ _ jo j c hc)
     obtain ⟨vs,h1,h2,h3⟩:=sR hI parts MX _ r _ Ap (by simpa using hlen) jR h
     refine ⟨vs,?_,h2,h3⟩
     have ij:i * sz+sz≤us.length:=by
      rw [hf.1]
      have :=Nat.mul_le_mul_right sz (show i+1≤rows.length by omega)
      rw [Nat.add_mul] at this
      omega
     have F9:((a.eval x).cells.zipIdx.foldl (fun cs (c,j)=>cs.setIfInBounds (i * sz+j) c) us.toArray)=(aU us (i * sz) (a.eval x).cells.toList).toArray:=
      nH.qT us (i * sz) (a.eval x).cells (by omega)
     simp only [List.map_cons,Instr.fill]
     rw [if_neg (by simp [fW]; omega),F9]
     exact h1
    ·cases h
theorem nK {w':World} (z:Array Value) (zs:aw) (sz n:Nat) (hz:bm qQ z.toList=some zs) (hl:zs.length=sz) (iq:0 < sz) :
  ((Array.range (n * sz)).map (z[·% z.size]!)).size=n * sz∧ ∀(i j:Nat),i < n→j < sz→ ∀c,zs[j]? =some c→ ∃u,((Array.range (n * sz)).map (z[·% z.size]!))[i * sz+j]? =some u∧aW w' S c u:=by
 have jo:=(iy w' S hz).1
 have hlen:=cg.length _ _ jo
 simp only [Array.length_toList] at hlen
 refine ⟨by simp,fun i j hi hj c hc=> ?_⟩
 obtain ⟨u,hu,hr⟩:=cg.at _ _ jo j c hc
 refine ⟨u,?_,hr⟩
 have dZ:=pZ hi hj
 have abJ:(i * sz+j) % z.size=j:=by
  rw [hlen,hl,Nat.add_comm,Nat.add_mul_mod_self_right,Nat.mod_eq_of_lt hj]
 simp only [Array.getElem?_map]
 rw [Array.getElem?_range]
 rw [if_pos dZ]
 simp only [Option.map_some,Option.some.injEq,abJ]
 have :z[j]? =some u:=by simpa using hu
 simp [getElem!_def,this]
theorem oT {T e sz len:Nat} (hT:P.underlying T=some (.slice e)) (hs:cG P e=some sz) (ij:len * sz≤16777216) (parts:Array (Nat×Value)) (zc:Array Value)
  (hz:(if len * sz=0 then pure #[] else do pure (← zeroValue e).cells:Sem (Array Value)).run P w= .ok zc w) (cells:Array Value)
  (hf:Instr.fill (fun i=>some (i * sz,sz)) ((Array.range (len * sz)).map (zc[·% zc.size]!)) parts.toList=some cells) :
  (Instr.buildSlice T len parts).run P w= .ok (.slice (some ⟨w.heap.size,0,none⟩) len len) (w.alloc (.cells cells e)):=by
 have gQ: ¬ (len * sz > 2 ^ 24):=by omega
 unfold Instr.buildSlice
 simp only [Sem.run_bind,run_underlying hT,Result.andThen_ok,cY hs]
 rw [if_neg gQ]
 by_cases h0:len * sz=0
 ·rw [if_pos h0] at hz ⊢
  simp only [Sem.run_pure,Result.ok.injEq,and_true] at hz
  subst hz
  simp only [Sem.run_bind,Sem.run_pure,Result.andThen_ok,hf]
  simp [newRow]
 ·rw [if_neg h0] at hz ⊢
  cases hr:(zeroValue e).run P w with
  | halt x w'=>simp [hr] at hz
  | ok zv w'=>
   simp only [Sem.run_bind,hr,Result.andThen_ok,Sem.run_pure,Result.ok.injEq] at hz
   obtain ⟨rfl,rfl⟩:=hz
   simp only [Sem.run_bind,hr,Sem.run_pure,Result.andThen_ok,hf]
   simp [newRow]
theorem nL (hI:Inv w0 S0 N ρ S st a w) {T e sz len:Nat} (hT:P.underlying T=some (.slice e)) (hs:cG P e=some sz) (iq:0 < sz) {z:aw} (hz:fC P e=some z)
  (wW:z.length=sz) (Fq:z.all DV.one=true) (ij:len * sz≤16777216) {parts:Array (Nat×Operand)} {pL:List (Nat×AX)} (hm:bm lz parts.toList=some pL) {rows:List (List AV)}
  (hr:dq st sz (List.replicate len (z.map .d)) pL=some rows) :
  ∃vs:List Value,(Instr.buildSlice T len (parts.map fun (i,x)=>(i,a.eval x))).run P w= .ok (.slice (some ⟨w.heap.size,0,none⟩) len len) (w.alloc (.cells vs.toArray e))∧Flat (aE w S ρ) sz rows vs∧rows.length=len∧len≤maxLen:=by
 unfold fC at hz
 cases hi:P.info? e with
 | none=>simp [hi] at hz
 | some it=>
  cases pY:it.zero with
  | none=>simp [hi,pY] at hz
  | some zv=>
   simp only [hi,pY] at hz
   have fW:it.size=sz:=by simpa [cG,hi] using hs
   let zc:Array Value:=if len * sz=0 then #[] else zv.cells
   have M1:Flat (aE w S ρ) sz (List.replicate len (z.map .d)) ((Array.range (len * sz)).map (zc[·% zc.size]!)).toList:=by
    refine ⟨by simp,?_,?_⟩
    ·intro e' bF
     rw [List.mem_replicate] at bF
     obtain ⟨_,rfl⟩:=bF
     refine ⟨by simpa using wW,?_⟩
     rw [List.all_map]
     rw [← Fq]
     congr
    ·intro i j e' c bF hc
     have yM:i < len:=by
      have :=(List.getElem?_eq_some_iff.1 bF).1
      simpa using this
     have F':e'=z.map .d:=by
      rw [List.getElem?_replicate] at bF
      rw [if_pos yM] at bF
      exact (Option.some.inj bF).symm
     subst F'
     simp only [List.getElem?_map,Option.map_eq_some_iff] at hc
     obtain ⟨c',gF,rfl⟩:=hc
     have hj:j < sz:=by rw [← wW]; exact (List.getElem?_eq_some_iff.1 gF).1
     have jT: ¬ len * sz=0:=by
      intro h0
      rcases Nat.mul_eq_zero.1 h0 with h0 | h0<;>omega
     have I9:zc=zv.cells:=if_neg jT
     rw [I9]
     obtain ⟨_,h2⟩:=nK (S:=S) (w':=w) zv.cells z sz len hz wW iq
     obtain ⟨u,hu,x6⟩:=h2 i j yM hj c' gF
     exact ⟨u,by rw [Array.getElem?_toList]; exact hu,by simpa only [aE] using x6⟩
   obtain ⟨vs,h1,h2,h3⟩:=sR hI (len:=len) parts.toList pL _ rows _ hm (by simp) M1 hr
   refine ⟨vs,?_,h2,h3,by
    have :len≤len * sz:=Nat.le_mul_of_pos_right len iq
    simp only [maxLen]; omega⟩
   ·refine oT hT hs ij _ zc ?_ _ ?_
    ·by_cases h0:len * sz=0
     ·have I9:zc= #[]:=if_pos h0
      rw [if_pos h0,I9]
      rfl
     ·have I9:zc=zv.cells:=if_neg h0
      rw [if_neg h0,I9]
      simp [zeroValue,typeInfo,hi,pY]
    ·have Iy:(parts.map fun (i,x)=>(i,a.eval x)).toList=parts.toList.map fun (i,x)=>(i,a.eval x):=by simp
     rw [Iy]
     simpa only [Array.toArray_toList] using h1
theorem A6 (z:aw) (rows:List (List AV)) :(gw z rows).length=rows.length:=by
 unfold gw
 cases z.any DV.isNil<;>simp
theorem yN (v:AV) (t:Nat) :v.DZ.has t=v.has t:=by cases v<;>rfl
theorem vn (t:Nat) : ∀l:List AV,eJ t (l.map AV.DZ)=eJ t l
 | []=>rfl
 | v::l=>by simp only [List.map_cons,eJ,yN,vn t l]
theorem A7 {t:Nat} (z:aw) {rows:List (List AV)} (h:rows.any (eJ t)=false) :(gw z rows).any (eJ t)=false:=by
 unfold gw
 cases z.any DV.isNil with
 | false=>exact h
 | true=>
  rw [cond_true,List.any_map,← h]
  congr 1
  funext e
  exact vn t e
theorem fX {w:World} {S:Nat→Nat→Prop} {x:DV} {u:Value} (h:aW w S x u) :aW w S (cellS x) u:=by
 cases x with
 | sl k sz es=>
  simp only [cellS,aW] at h ⊢
  obtain ⟨a,b,o,cap,h1,h2,h3,_,h5⟩:=h
  exact .inr ⟨a,b,o,cap,h1,h2,h3,(fun h=>by cases h),h5⟩
 | af=>exact h.of_nil
 | _=>exact h
theorem A9 {w:World} {S:Nat→Nat→Prop} {ρ:Nat→Nat×Nat} {v:AV} {u:Value} (h:aE w S ρ v u) :aE w S ρ v.DZ u:=by
 cases v with
 | d x=>
  simp only [AV.DZ,aE] at h ⊢
  exact fX h
 | _=>exact h
theorem Ga (v:AV) (h:v.one=true) :v.DZ.one=true:=by
 cases v with
 | d x=>cases x<;>first | exact h | rfl
 | _=>exact h
theorem Flat.gw {w:World} {S:Nat→Nat→Prop} {ρ:Nat→Nat×Nat} {sz:Nat} {rows:List (List AV)} {us:List Value} (h:Flat (aE w S ρ) sz rows us) (z:aw) :Flat (aE w S ρ) sz (gw z rows) us:=by
 unfold Vm.gw
 cases z.any DV.isNil with
 | false=>exact h
 | true=>
  simp only [cond_true]
  refine ⟨by rw [List.length_map]; exact h.1,fun e he=> ?_,fun i j e c he hc=> ?_⟩
  ·obtain ⟨e0,uB,rfl⟩:=List.mem_map.1 he
   obtain ⟨h1,h2⟩:=h.2.1 e0 uB
   refine ⟨by rw [List.length_map]; exact h1,?_⟩
   rw [List.all_eq_true] at h2 ⊢
   intro c hc
   obtain ⟨c0,qU,rfl⟩:=List.mem_map.1 hc
   exact Ga c0 (h2 c0 qU)
  ·simp only [List.getElem?_map,Option.map_eq_some_iff] at he
   obtain ⟨e0,uB,rfl⟩:=he
   simp only [List.getElem?_map,Option.map_eq_some_iff] at hc
   obtain ⟨c0,qU,rfl⟩:=hc
   obtain ⟨u,hu,hr⟩:=h.2.2 i j e0 c0 uB qU
   exact ⟨u,hu,A9 hr⟩
theorem wX (hI:Inv w0 S0 N ρ S st a w) {t T e sz len:Nat} (ht:t < N) (hT:P.underlying T=some (.slice e)) (hs:cG P e=some sz) (iq:0 < sz) {z:aw} (hz:fC P e=some z)
  (wW:z.length=sz) (Fq:z.all DV.one=true) (ij:len * sz≤16777216) {parts:Array (Nat×Operand)} {pL:List (Nat×AX)} (hm:bm lz parts.toList=some pL) {rows:List (List AV)}
  (hr:dq st sz (List.replicate len (z.map .d)) pL=some rows) (gQ:rows.any (eJ t)=false) :
  ∃u w1,(Instr.buildSlice T len (parts.map fun (i,x)=>(i,a.eval x))).run P w= .ok u w1∧cF w0 S0 N ((st.at_ t (kg e sz (gw z rows))).put t (.ah t sz 0 len)) (a.put (some t) u) w1:=by
 obtain ⟨vs,bU,h2,qV,M3⟩:=nL hI hT hs iq hz wW Fq ij hm hr
 replace h2:=h2.gw z
 replace qV:(gw z rows).length=len:=by rw [A6]; exact qV
 replace gQ:=A7 z gQ
 generalize gw z rows=rows at *
 have hk:=kz hI (.cells vs.toArray e)
 refine ⟨.slice (some ⟨w.heap.size,0,none⟩) len len,w.alloc (.cells vs.toArray e),bU,?_⟩
 have hx:=hI.alloc (t:=t) (hI.fl ht) (ob:=kg e sz rows) (cap:=len) (cs:=vs.toArray) (el:=e) (fun w1 ρ' hw hρ=>by
  subst hw hρ
  refine lY (blk:=w.heap.size) (cap:=len) (cur:=vs.toArray) (by simp) (hI.fresh (Nat.le_refl _)) (en _ _) (by simp [h2.1,qV]) (by omega) M3 (fO hI) h2.2.1 ?_
  intro i j e' c bF hc
  obtain ⟨u,hu,x6⟩:=h2.2.2 i j e' c bF hc
  refine ⟨u,by simpa using hu,?_⟩
  refine aE.site t (fun n hn=>by simp [hn]) c u ?_ (aE.kept hk c u x6)
  rw [List.any_eq_false] at gQ
  have :=gQ e' (List.mem_of_getElem? bF)
  exact sQ e' t (by simpa using this) c (List.mem_of_getElem? hc))
 refine ⟨_,_,hx.put ht ?_⟩
 simp only [aE,if_true]
 exact ⟨_,_,rfl,fun _=>by simp,fun _=>rfl,Nat.le_refl _,rfl⟩
theorem yO (hI:Inv w0 S0 N ρ S st a w) {T e sz len:Nat} (hT:P.underlying T=some (.slice e)) (hs:cG P e=some sz) (iq:0 < sz) {z:aw} (hz:fC P e=some z)
  (wW:z.length=sz) (Fq:z.all DV.one=true) (ij:len * sz≤16777216) {parts:Array (Nat×Operand)} {pL:List (Nat×AX)} (hm:bm lz parts.toList=some pL) {rows:List (List AV)}
  (hr:dq st sz (List.replicate len (z.map .d)) pL=some rows) {ds:aj} (fi:g5 rows=some ds) :
  ∃u w1 S',(Instr.buildSlice T len (parts.map fun (i,x)=>(i,a.eval x))).run P w= .ok u w1∧(∀st2,Inv w0 S0 N ρ S st2 a w→Inv w0 S0 N ρ S' st2 a w1)∧aW w1 S' (.sl .tight sz ds) u:=by
 obtain ⟨vs,bU,h2,qV,M3⟩:=nL hI hT hs iq hz wW Fq ij hm hr
 have hb:bJ (fun k=>k < w.heap.size) w (w.alloc (.cells vs.toArray e)):=(iA w _ (Nat.le_refl _) _).Ro fun _ h=>h
 have g8: ∀b o,(S b o∨b=w.heap.size)→b < (w.alloc (.cells vs.toArray e)).heap.size:=by
  have fW:(w.alloc (.cells vs.toArray e)).heap.size=w.heap.size+1:=by
   show (w.heap.push _).size=_
   simp
  rintro b o (h | rfl)
  ·have :=hI.live b o h
   omega
  ·omega
 have I':Kept w (w.alloc (.cells vs.toArray e)) S fun b o=>S b o∨b=w.heap.size:=kC hI hb fun _ _ h=> .inl h
 refine ⟨_,_,fun b o=>S b o∨b=w.heap.size,bU,fun st2 sS=>sS.called hb (fun _ _ h=> .inl h) (fun b o h=>h.imp id fun h=>by omega) g8,?_⟩
 have Ek:=p6 rows ds fi
 subst Ek
 simp only [List.length_map] at qV
 simp only [aW]
 refine ⟨_,w.heap.size,0,len,by rw [qV],fun _=>rfl,by omega,fun _=>by omega,gO.mk _ _ _ _ fun i e' bF=> ?_⟩
 have gA:=h2.2.1 (e'.map .d) (List.mem_map.2 ⟨e',List.mem_of_getElem? bF,rfl⟩)
 simp only [List.length_map] at gA
 refine ⟨gA.1,iS.mk _ _ _ fun j c hc=>⟨.inr rfl,?_⟩⟩
 obtain ⟨u,hu,x6⟩:=h2.2.2 i j (e'.map .d) (.d c) (by simp [bF]) (by simp [hc])
 refine ⟨u,?_,aW.kept I' c u (by simpa only [aE] using x6)⟩
 rw [Nat.zero_add,cell_of_row _ _ _ vs.toArray e (0,0) (en _ _)]
 simpa using hu
theorem Gb (hI:Inv w0 S0 N ρ S st a w) {el:TypeId} {x:AV} {v:Value} (hx:aE w S ρ x v) {ds:aw} (fi:dH x.cells=some ds) (fp:x.cells.all AV.one=true) :
  ∃u w1 S',(newVar el v).run P w= .ok u w1∧(∀st2,Inv w0 S0 N ρ S st2 a w→Inv w0 S0 N ρ S' st2 a w1)∧aW w1 S' (.aI ds 0) (.pointer (some u)):=by
 have jo:=aE.cells hx fp
 have hb:bJ (fun k=>k < w.heap.size) w (w.alloc (.cells v.cells el)):=(iA w _ (Nat.le_refl _) _).Ro fun _ h=>h
 have g8: ∀b o,(S b o∨b=w.heap.size)→b < (w.alloc (.cells v.cells el)).heap.size:=by
  have fW:(w.alloc (.cells v.cells el)).heap.size=w.heap.size+1:=by
   show (w.heap.push _).size=_
   simp
  rintro b o (h | rfl)
  ·have :=hI.live b o h
   omega
  ·omega
 have I':Kept w (w.alloc (.cells v.cells el)) S fun b o=>S b o∨b=w.heap.size:=kC hI hb fun _ _ h=> .inl h
 refine ⟨⟨w.heap.size,0,none⟩,w.alloc (.cells v.cells el),fun b o=>S b o∨b=w.heap.size,by simp [newVar,newRow],fun st2 sS=>sS.called hb (fun _ _ h=> .inl h) (fun b o h=>h.imp id fun h=>by omega) g8,?_⟩
 have Ek:=lX _ _ fi
 simp only [aW]
 refine ⟨w.heap.size,0,rfl,iS.mk _ _ _ fun j c hc=>⟨.inr rfl,?_⟩⟩
 rw [Ek] at jo
 obtain ⟨u,hu,x6⟩:=aS.at _ _ jo j (.d c) (by simp [hc])
 refine ⟨u,?_,aW.kept I' c u (by simpa only [aE] using x6)⟩
 rw [Nat.zero_add,cell_of_row _ _ _ v.cells el (0,0) (en _ _)]
 simpa using hu
theorem uJ (hI:Inv w0 S0 N ρ S st a w) {t T e sz bytes:Nat} (ht:t < N) (hT:P.underlying T=some (.slice e)) (hs:cG P e=some sz) (Rt:lu P e=some bytes) (iq:0 < sz) {z:aw}
  (hz:fC P e=some z) (wW:z.length=sz) (Fq:z.all DV.one=true) {kl kc:IntKind} {m n:Int} (h0:0≤m) (hmn:m≤n) (hb:n.toNat * bytes≤room) (hn:n.toNat≤room) :
  ∃u w1,(Instr.makeSlice T (.int kl m) (.int kc n)).run P w= .ok u w1∧cF w0 S0 N ((st.at_ t (.aC e sz (List.replicate m.toNat z))).put t (.ah t sz 0 m.toNat)) (a.put (some t) u) w1:=by
 unfold fC at hz
 cases hi:P.info? e with
 | none=>simp [hi] at hz
 | some it=>
  cases pY:it.zero with
  | none=>simp [hi,pY] at hz
  | some zv=>
   simp only [hi,pY] at hz
   have fW:it.size=sz:=by simpa [cG,hi] using hs
   have kD:it.bytes=bytes:=by simpa [lu,hi] using Rt
   simp only [room] at hb hn
   have rX:(it.bytes:Int) * n≤281474976710656:=by
    rw [kD]
    have h1:((n.toNat * bytes:Nat) :Int)≤((1099511627776:Nat) :Int):=Int.ofNat_le.2 hb
    rw [Int.natCast_mul,Int.toNat_of_nonneg (Int.le_trans h0 hmn),Int.mul_comm] at h1
    omega
   have bU:=run_make (P:=P) w T e it zv hT hi pY kl kc m n h0 hmn rX (by omega)
   refine ⟨_,_,bU,?_⟩
   rw [fW]
   have hk:=kz hI (.cells (madeCells zv.cells (n.toNat * sz)) e)
   have hx:=hI.alloc (t:=t) (hI.fl ht) (ob:= .aC e sz (List.replicate m.toNat z)) (cap:=n.toNat) (cs:=madeCells zv.cells (n.toNat * sz)) (el:=e) (fun w1 ρ' hw hρ=>by
    subst hw hρ
    refine jS (blk:=w.heap.size) (cap:=n.toNat) (cur:=madeCells zv.cells (n.toNat * sz)) (by simp) (hI.fresh (Nat.le_refl _)) (en _ _) (size_madeCells _ _) (by simp; omega) (by simp only [maxLen]; omega) (fO hI) ?_ ?_
    ·intro e' bF
     rw [List.mem_replicate] at bF
     obtain ⟨_,rfl⟩:=bF
     exact ⟨wW,Fq⟩
    ·intro i j e' c bF hc
     have yM:i < m.toNat:=by
      have :=(List.getElem?_eq_some_iff.1 bF).1
      simpa using this
     have F':e'=z:=by
      rw [List.getElem?_replicate,if_pos yM] at bF
      exact (Option.some.inj bF).symm
     subst F'
     have hj:j < sz:=by rw [← wW]; exact (List.getElem?_eq_some_iff.1 hc).1
     obtain ⟨_,h2⟩:=nK (S:=S) (w':=w.alloc (.cells (madeCells zv.cells (n.toNat * sz)) e)) zv.cells e' sz n.toNat hz wW iq
     exact h2 i j (by omega) hj c hc)
   refine ⟨_,_,hx.put ht ?_⟩
   simp only [aE,if_true]
   exact ⟨_,_,rfl,fun _=>by simp,fun _=>rfl,by show m.toNat≤n.toNat; omega,rfl⟩
theorem wY (hI:Inv w0 S0 N ρ S st a w) {T e sz bytes:Nat} (hT:P.underlying T=some (.slice e)) (hs:cG P e=some sz) (Rt:lu P e=some bytes) (iq:0 < sz) {z:aw}
  (hz:fC P e=some z) (wW:z.length=sz) (Fq:z.all DV.one=true) {kl kc:IntKind} {n:Int} (h0:0≤n) (hb:n.toNat * bytes≤room) (hn:n.toNat≤room) :
  ∃u w1 S',(Instr.makeSlice T (.int kl n) (.int kc n)).run P w= .ok u w1∧(∀st2,Inv w0 S0 N ρ S st2 a w→Inv w0 S0 N ρ S' st2 a w1)∧aW w1 S' (.sl .tight sz (List.replicate n.toNat z)) u:=by
 unfold fC at hz
 cases hi:P.info? e with
 | none=>simp [hi] at hz
 | some it=>
  cases pY:it.zero with
  | none=>simp [hi,pY] at hz
  | some zv=>
   simp only [hi,pY] at hz
   have fW:it.size=sz:=by simpa [cG,hi] using hs
   have kD:it.bytes=bytes:=by simpa [lu,hi] using Rt
   simp only [room] at hb hn
   have rX:(it.bytes:Int) * n≤281474976710656:=by
    rw [kD]
    have h1:((n.toNat * bytes:Nat) :Int)≤((1099511627776:Nat) :Int):=Int.ofNat_le.2 hb
    rw [Int.natCast_mul,Int.toNat_of_nonneg h0,Int.mul_comm] at h1
    omega
   have bU:=run_make (P:=P) w T e it zv hT hi pY kl kc n n h0 (Int.le_refl _) rX (by omega)
   rw [fW] at bU
   have hbl:bJ (fun k=>k < w.heap.size) w (w.alloc (.cells (madeCells zv.cells (n.toNat * sz)) e)):=(iA w _ (Nat.le_refl _) _).Ro fun _ h=>h
   have g8: ∀b o,(S b o∨b=w.heap.size)→b < (w.alloc (.cells (madeCells zv.cells (n.toNat * sz)) e)).heap.size:=by
    have fW:(w.alloc (.cells (madeCells zv.cells (n.toNat * sz)) e)).heap.size=w.heap.size+1:=by
     show (w.heap.push _).size=_
     simp
    rintro b o (h | rfl)
    ·have :=hI.live b o h
     omega
    ·omega
   refine ⟨_,_,fun b o=>S b o∨b=w.heap.size,bU,fun st2 sS=>sS.called hbl (fun _ _ h=> .inl h) (fun b o h=>h.imp id fun h=>by omega) g8,?_⟩
   simp only [aW]
   refine ⟨_,w.heap.size,0,n.toNat,by simp,fun _=>rfl,by simp,fun _=>by simp,gO.mk _ _ _ _ fun i e' bF=> ?_⟩
   have yM:i < n.toNat:=by
    have :=(List.getElem?_eq_some_iff.1 bF).1
    simpa using this
   have F':e'=z:=by
    rw [List.getElem?_replicate,if_pos yM] at bF
    exact (Option.some.inj bF).symm
   subst F'
   refine ⟨wW,iS.mk _ _ _ fun j c hc=>⟨.inr rfl,?_⟩⟩
   have hj:j < sz:=by rw [← wW]; exact (List.getElem?_eq_some_iff.1 hc).1
   obtain ⟨_,h2⟩:=nK (S:=fun b o=>S b o∨b=w.heap.size) (w':=w.alloc (.cells (madeCells zv.cells (n.toNat * sz)) e)) zv.cells e' sz n.toNat hz wW iq
   obtain ⟨u,hu,hr⟩:=h2 i j yM hj c hc
   refine ⟨u,?_,hr⟩
   rw [Nat.zero_add,cell_of_row _ _ _ _ e (0,0) (en _ _)]
   exact hu
theorem Inv.jJ (hI:Inv w0 S0 N ρ S st a w) {s:Nat} {o ob:Ob} (hs:st.aT s=some o) {el:TypeId} {cur Ja:Array Value} (cS:w.heap[(ρ s).1]? =some (.cells cur el (0,0)))
  (Lu:bO w0.gz (w.setRow (ρ s).1 Ja) S ρ s ob) :Inv w0 S0 N ρ S (st.jJ s ob) a (w.setRow (ρ s).1 Ja):=by
 have QE:=(hI.aT s o hs).lt
 have Ba: ∀k,k≠(ρ s).1→(w.setRow (ρ s).1 Ja).heap[k]? =w.heap[k]? :=fun k hk=>setRow_other w _ k _ hk
 have hk:Kept w (w.setRow (ρ s).1 Ja) S S:=⟨fun _ _ h=>h,fun b p hb u hu=>by
  have I8:b≠(ρ s).1:=fun e=>QE.2.2 p (e ▸ hb)
  rw [World.cell?] at hu ⊢
  rw [Ba b I8]; exact hu⟩
 refine ⟨hI.size,hI.defers,fun n=>aE.kept hk _ _ (hI.env n),fun n t want v he h=>aE.kept hk _ _ (hI.fV n t want v he h),hI.kx,fun n o' hn=> ?_,fun n m o1 o2 hn hm he=> ?_,fun b p hb=>by simpa using hI.live b p hb,hI.up,hI.new,?_,hI.small,hI.pins⟩
 ·simp only [St.jJ] at hn
  split at hn
  ·rename_i he
   subst he
   simp only [Option.some.injEq] at hn
   subst hn
   exact Lu
  ·rename_i cu
   have h1:=hI.aT n o' hn
   refine bO.kept hk h1 (Ba _ fun he=>cu (hI.apart n s o' o hn hs he)) h1.lt.2.2
 ·simp only [St.jJ] at hn hm
  have El: ∃x,st.aT n=some x:=by
   split at hn
   ·rename_i he; subst he; exact ⟨o,hs⟩
   ·exact ⟨o1,hn⟩
  have Ap: ∃x,st.aT m=some x:=by
   split at hm
   ·rename_i he; subst he; exact ⟨o,hs⟩
   ·exact ⟨o2,hm⟩
  obtain ⟨x,hx⟩:=El
  obtain ⟨y,hy⟩:=Ap
  exact hI.apart n m x y hx hy he
 ·refine hI.below.trans ⟨rfl,rfl,rfl,by simp,fun k I'=>Ba k ?_⟩
  exact fun e=>QE.1 (e ▸ I')
theorem yP (hI:Inv w0 S0 N ρ S st a w) {T sz:Nat} (hs:cG P T=some sz) {x y:AV} {vx vy:Value} (hx:aE w S ρ x vx) (hy:aE w S ρ y vy) {st':St} (h:fE st sz x y=some st') :
  ∃w1,(Instr.storeAt T vx vy).run P w= .ok () w1∧cF w0 S0 N st' a w1:=by
 unfold fE at h
 split at h
 ·rename_i s bd i off
  simp only [aE] at hx
  subst hx
  dsimp only at h
  split at h
  ·rename_i c8
   obtain ⟨hlen,fp⟩:=c8
   have jo:=aE.cells hy fp
   have abK:=aS.length _ _ jo
   have Fp:vy.cells.size=sz:=by
    simp only [Array.length_toList] at abK
    omega
   have hv1: ∀u∈vy.cells.toList,u.oneCell'=true:=by
    intro u hu
    obtain ⟨k,hk,rfl⟩:=List.getElem_of_mem hu
    have Iz:k < y.cells.length:=by omega
    obtain ⟨u',g7,hr⟩:=aS.at _ _ jo k _ (List.getElem?_eq_getElem Iz)
    rw [List.getElem?_eq_getElem hk] at g7
    simp only [Option.some.injEq] at g7
    rw [g7]
    exact aE.one hr (List.all_eq_true.1 fp _ (List.getElem_mem Iz))
   have bU: ∀(cur:Array Value) (el:TypeId),w.heap[(ρ s).1]? =some (.cells cur el (0,0))→i * bd+off+sz≤cur.size→
     (Instr.storeAt T (.pointer (some ⟨(ρ s).1,i * bd+off,none⟩)) vy).run P w= .ok () (w.setRow (ρ s).1 (aU cur.toList (i * bd+off) vy.cells.toList).toArray):=by
    intro cur el cS ij
    have :=run_storeCells_at P (ρ s).1 (i * bd+off) el vy.cells.toList 0 cur w cS (by simp [Fp]; omega) hv1
    simp only [Nat.add_zero] at this
    simp [Instr.storeAt,Instr.sureAddr,storeVar,cY hs,Fp,this,aU]
   cases aZ:st.aT s with
   | none=>simp [aZ] at h
   | some o=>
    have fD:=hI.aT s o aZ
    cases o with
    | aC el cO es=>
     simp only [aZ] at h
     split at h
     ·rename_i heq
      subst heq
      split at h
      ·rename_i e he
       split at h
       ·rename_i ij
        obtain ⟨bj,cR⟩:=fD
        obtain ⟨cur,cS,sU,cD⟩:=cR.here
        have hi:i < es.length:=(List.getElem?_eq_some_iff.1 he).1
        have jn:=(bj e (List.mem_of_getElem? he)).1
        have sV:i * bd+off+sz≤cur.size:=by
         have h1:=Nat.mul_le_mul_right bd (show i+1≤(ρ s).2 by have :=cR.fits; omega)
         rw [Nat.add_mul] at h1
         omega
        have jR: ∀(rows:List (List AV)),rows=(es.map (·.map AV.d)).set i (aU (e.map AV.d) off y.cells)→(∀e∈rows,e.length=bd∧e.all AV.one=true)∧
          ∀(i' j:Nat) e' c,rows[i']? =some e'→e'[j]? =some c→ ∃u,(aU cur.toList (i * bd+off) vy.cells.toList)[i' * bd+j]? =some u∧aE w S ρ c u:=by
         intro rows hrw
         subst hrw
         have Ru:(aU (e.map AV.d) off y.cells).length=bd:=by
          simp only [aU,List.length_append,List.length_take,List.length_drop,List.length_map]
          omega
         refine ⟨fun e' bF=> ?_,fun i' j e' c bF hc=> ?_⟩
         ·rcases List.mem_or_eq_of_mem_set bF with bF | rfl
          ·obtain ⟨e2,uI,rfl⟩:=List.mem_map.1 bF
           have :=bj e2 uI
           exact ⟨by simpa using this.1,by rw [List.all_map,← this.2]; congr⟩
          ·refine ⟨Ru,?_⟩
           have h2:=(bj e (List.mem_of_getElem? he)).2
           rw [List.all_eq_true] at h2 fp ⊢
           intro c hc
           simp only [aU,List.mem_append] at hc
           rcases hc with (hc | hc) | hc
           ·obtain ⟨d,hd,rfl⟩:=List.mem_map.1 (List.mem_of_mem_take hc)
            exact h2 d hd
           ·exact fp c hc
           ·obtain ⟨d,hd,rfl⟩:=List.mem_map.1 (List.mem_of_mem_drop hc)
            exact h2 d hd
         ·rw [gR _ _ _ (by simp [Fp]; omega)]
          rw [List.getElem?_set] at bF
          by_cases AT:i=i'
          ·subst AT
           rw [if_pos rfl,if_pos (by simpa using hi)] at bF
           simp only [Option.some.injEq] at bF
           subst bF
           rw [gR _ _ _ (by simp; omega)] at hc
           simp only [Array.length_toList,Fp]
           split at hc
           ·rename_i Rv
            rw [if_pos (by omega),show i * bd+j - (i * bd+off)=j - off by omega]
            exact aS.at _ _ jo _ c hc
           ·rename_i Rv
            rw [if_neg (by omega)]
            simp only [List.getElem?_map,Option.map_eq_some_iff] at hc
            obtain ⟨d,hd,rfl⟩:=hc
            obtain ⟨u,hu,hr⟩:=cD i j hi (by rw [← jn]; exact (List.getElem?_eq_some_iff.1 hd).1)
            exact ⟨u,by simpa using hu,by simpa only [aE] using hr e d he hd⟩
          ·rw [if_neg AT] at bF
           simp only [List.getElem?_map,Option.map_eq_some_iff] at bF
           obtain ⟨e2,uI,rfl⟩:=bF
           simp only [List.getElem?_map,Option.map_eq_some_iff] at hc
           obtain ⟨d,hd,rfl⟩:=hc
           have Gc:=(bj e2 (List.mem_of_getElem? uI)).1
           have hj:j < bd:=by rw [← Gc]; exact (List.getElem?_eq_some_iff.1 hd).1
           have Rw:i' < es.length:=(List.getElem?_eq_some_iff.1 uI).1
           simp only [Array.length_toList,Fp]
           rw [if_neg (by
            intro hh
            rcases Nat.lt_or_gt_of_ne AT with h | h
            ·have h5:=Nat.mul_le_mul_right bd (show i+1≤i' by omega)
             rw [Nat.add_mul] at h5
             omega
            ·have :=pZ (n:=i) (i:=i') (j:=j) (sz:=bd) h hj
             omega)]
           obtain ⟨u,hu,hr⟩:=cD i' j Rw hj
           exact ⟨u,by simpa using hu,by simpa only [aE] using hr e2 d uI hd⟩
        obtain ⟨QF,hn2⟩:=jR _ rfl
        have k7: ∀(w1:World),w1=w.setRow (ρ s).1 (aU cur.toList (i * bd+off) vy.cells.toList).toArray→bO w0.gz w1 S ρ s (kg el bd ((es.map (·.map AV.d)).set i (aU (e.map AV.d) off y.cells))):=by
         intro w1 hw1
         subst hw1
         have hk:Kept w (w.setRow (ρ s).1 (aU cur.toList (i * bd+off) vy.cells.toList).toArray) S S:=⟨fun _ _ h=>h,fun b p hb u hu=>by
          have I8:b≠(ρ s).1:=fun e=>cR.apart p (e ▸ hb)
          rw [World.cell?] at hu ⊢
          rw [setRow_other w _ b _ I8]; exact hu⟩
         refine lY (blk:=(ρ s).1) (cap:=(ρ s).2) (cur:=(aU cur.toList (i * bd+off) vy.cells.toList).toArray) rfl cR.base (setRow_heap w _ cur _ el _ cS) ?_ (by simpa using cR.fits) cR.len cR.apart QF ?_
         ·simp only [aU,List.size_toArray,List.length_append,List.length_take,List.length_drop,Array.length_toList,Fp]
          omega
         ·intro i' j e' c bF hc
          obtain ⟨u,hu,hr⟩:=hn2 i' j e' c bF hc
          exact ⟨u,by simpa using hu,aE.kept hk c u hr⟩
        refine ⟨_,bU cur el cS sV,ρ,S,?_⟩
        have Em:=hI.jJ aZ cS (k7 _ rfl)
        split at h
        ·rename_i ds fi
         simp only [Option.some.injEq] at h
         subst h
         have Jb:=lX _ _ fi
         have hmk:kg el bd ((es.map (·.map AV.d)).set i (aU (e.map AV.d) off y.cells))= .aC el bd (es.set i (aU e off ds)):=by
          have :(es.map (·.map AV.d)).set i (aU (e.map AV.d) off y.cells)=(es.set i (aU e off ds)).map (·.map AV.d):=by
           rw [List.map_set,Jb]
           congr 1
           simp [aU]
          rw [this]
          unfold kg
          rw [wZ]
         rw [hmk] at Em
         exact Em
        ·rename_i fi
         simp only [Option.some.injEq] at h
         subst h
         have hmk:kg el bd ((es.map (·.map AV.d)).set i (aU (e.map AV.d) off y.cells))= .mix el bd ((es.map (·.map AV.d)).set i (aU (e.map AV.d) off y.cells)):=by
          unfold kg
          rw [Bb _ i (aU (e.map AV.d) off y.cells) (by rw [List.getElem?_set,if_pos rfl,if_pos (by simpa using hi)]) ?_]
          cases hc:dH (aU (e.map AV.d) off y.cells) with
          | none=>rfl
          | some Bc=>
           have h9:=lX _ _ hc
           have h10: ∀c∈y.cells,∃d,c=AV.d d:=by
            intro c hcm
            have :c∈aU (e.map AV.d) off y.cells:=by simp [aU,hcm]
            rw [h9] at this
            obtain ⟨d,_,rfl⟩:=List.mem_map.1 this
            exact ⟨d,rfl⟩
           obtain ⟨ds2,abO⟩:=yQ y.cells h10
           rw [abO] at fi
           cases fi
         rw [hmk] at Em
         exact Em
       ·cases h
      ·cases h
     ·cases h
    | mix el cO es=>
     simp only [aZ] at h
     split at h
     ·rename_i heq
      subst heq
      split at h
      ·rename_i e he
       split at h
       ·rename_i ij
        simp only [Option.some.injEq] at h
        subst h
        obtain ⟨bj,cR⟩:=fD
        obtain ⟨cur,cS,sU,cD⟩:=cR.here
        have hi:i < es.length:=(List.getElem?_eq_some_iff.1 he).1
        have jn:=(bj e (List.mem_of_getElem? he)).1
        have sV:i * bd+off+sz≤cur.size:=by
         have h1:=Nat.mul_le_mul_right bd (show i+1≤(ρ s).2 by have :=cR.fits; omega)
         rw [Nat.add_mul] at h1
         omega
        have Ru:(aU e off y.cells).length=bd:=by
         simp only [aU,List.length_append,List.length_take,List.length_drop]
         omega
        have QF: ∀e'∈es.set i (aU e off y.cells),e'.length=bd∧e'.all AV.one=true:=by
         intro e' bF
         rcases List.mem_or_eq_of_mem_set bF with bF | rfl
         ·exact bj e' bF
         ·refine ⟨Ru,?_⟩
          have h2:=(bj e (List.mem_of_getElem? he)).2
          rw [List.all_eq_true] at h2 fp ⊢
          intro c hc
          simp only [aU,List.mem_append] at hc
          rcases hc with (hc | hc) | hc
          ·exact h2 c (List.mem_of_mem_take hc)
          ·exact fp c hc
          ·exact h2 c (List.mem_of_mem_drop hc)
        have hn2: ∀(i' j:Nat) e' c,(es.set i (aU e off y.cells))[i']? =some e'→e'[j]? =some c→ ∃u,(aU cur.toList (i * bd+off) vy.cells.toList)[i' * bd+j]? =some u∧aE w S ρ c u:=by
         intro i' j e' c bF hc
         rw [gR _ _ _ (by simp [Fp]; omega)]
         rw [List.getElem?_set] at bF
         by_cases AT:i=i'
         ·subst AT
          rw [if_pos rfl,if_pos hi] at bF
          simp only [Option.some.injEq] at bF
          subst bF
          rw [gR _ _ _ (by omega)] at hc
          simp only [Array.length_toList,Fp]
          split at hc
          ·rename_i Rv
           rw [if_pos (by omega),show i * bd+j - (i * bd+off)=j - off by omega]
           exact aS.at _ _ jo _ c hc
          ·rename_i Rv
           rw [if_neg (by omega)]
           obtain ⟨u,hu,hr⟩:=cD i j hi (by rw [← jn]; exact (List.getElem?_eq_some_iff.1 hc).1)
           exact ⟨u,by simpa using hu,hr e c he hc⟩
         ·rw [if_neg AT] at bF
          have Gc:=(bj e' (List.mem_of_getElem? bF)).1
          have hj:j < bd:=by rw [← Gc]; exact (List.getElem?_eq_some_iff.1 hc).1
          have Rw:i' < es.length:=(List.getElem?_eq_some_iff.1 bF).1
          simp only [Array.length_toList,Fp]
          rw [if_neg (by
           intro hh
           rcases Nat.lt_or_gt_of_ne AT with h | h
           ·have h5:=Nat.mul_le_mul_right bd (show i+1≤i' by omega)
            rw [Nat.add_mul] at h5
            omega
           ·have :=pZ (n:=i) (i:=i') (j:=j) (sz:=bd) h hj
            omega)]
          obtain ⟨u,hu,hr⟩:=cD i' j Rw hj
          exact ⟨u,by simpa using hu,hr e' c bF hc⟩
        refine ⟨_,bU cur el cS sV,ρ,S,hI.jJ aZ cS ?_⟩
        have hk:Kept w (w.setRow (ρ s).1 (aU cur.toList (i * bd+off) vy.cells.toList).toArray) S S:=⟨fun _ _ h=>h,fun b p hb u hu=>by
         have I8:b≠(ρ s).1:=fun e=>cR.apart p (e ▸ hb)
         rw [World.cell?] at hu ⊢
         rw [setRow_other w _ b _ I8]; exact hu⟩
        refine ⟨QF,cR.base,⟨_,setRow_heap w _ cur _ el _ cS,?_,fun i' j yM hj=> ?_⟩,by simpa using cR.fits,cR.len,cR.apart⟩
        ·simp only [aU,List.size_toArray,List.length_append,List.length_take,List.length_drop,Array.length_toList,Fp]
         omega
        ·have af7:=(QF _ (List.getElem_mem yM)).1
         obtain ⟨u,hu,hr⟩:=hn2 i' j _ _ (List.getElem?_eq_getElem yM) (List.getElem?_eq_getElem (by omega:j < _))
         refine ⟨u,by simpa using hu,fun e' c bF hc=> ?_⟩
         rw [List.getElem?_eq_getElem yM] at bF
         simp only [Option.some.injEq] at bF
         subst bF
         rw [List.getElem?_eq_getElem (by omega)] at hc
         simp only [Option.some.injEq] at hc
         subst hc
         exact aE.kept hk _ u hr
       ·cases h
      ·cases h
     ·cases h
  ·cases h
 ·cases h
where
 wZ (es:aj) :g5 (es.map (·.map AV.d))=some es:=by
  induction es with
  | nil=>rfl
  | cons e es ih=>
   have :dH (e.map AV.d)=some e:=by
    induction e with
    | nil=>rfl
    | cons d e QG=>simp [dH,QG]
   simp [g5,this,ih]
 Bb (rows:List (List AV)) (i:Nat) (e:List AV) (he:rows[i]? =some e) (hn:dH e=none) :g5 rows=none:=by
  induction rows generalizing i with
  | nil=>simp at he
  | cons r rows ih=>
   cases i with
   | zero=>
    simp only [List.getElem?_cons_zero,Option.some.injEq] at he
    subst he
    simp [g5,hn]
   | succ i=>
    simp only [List.getElem?_cons_succ] at he
    simp only [g5,ih i he]
    split<;>first | rfl | simp_all
 yQ (l:List AV) (h: ∀c∈l,∃d,c=AV.d d) : ∃ds,dH l=some ds:=by
  induction l with
  | nil=>exact ⟨[],rfl⟩
  | cons c l ih=>
   obtain ⟨ds,fi⟩:=ih fun c hc=>h c (by simp [hc])
   obtain ⟨d,rfl⟩:=h c (by simp)
   exact ⟨d::ds,by simp [dH,fi]⟩
end
end Go.Proofs.YtglbgfcegifeeaaGreat.Vm
