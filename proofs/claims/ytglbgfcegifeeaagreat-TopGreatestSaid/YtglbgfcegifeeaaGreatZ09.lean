/- What fits, by both: the proofs. No condition. -/
import Derived.Test.YtglbgfcegifeeaaGreatZ08
import Derived.MapKept
import Derived.Deep.WholeRow
set_option linter.unusedVariables false
set_option linter.unusedSimpArgs false
set_option linter.unusedSectionVars false
namespace Go.Proofs.YtglbgfcegifeeaaGreat.Fz
open Go Go.Proofs Go.RowKit Vm
def BI (n:Nat) (l:aj) :Bool:=l.all (fS n)&&decide (l.length≤64)
def zI:aR where
 D ds:= ∃ac bs ms qs x,ds=[.agg (bk ac bs ms qs),x]∧Sl 7 x∧(ar x).length≤1000∧ ∀e∈ar x,aq z7 e=true
 val ds:=match ds with | [.agg [.ag _ _ ac,.ag _ _ bs,.ag _ _ ms,.ag _ _ qs],x]=>some (.bool (BI ac.length (ar x))) | _=>none
noncomputable def spP:FuncId→Option aR:=bL 51 rO (bL 52 EU (bL 47 zI (bL 48 EU aV)))
theorem t12 (n:Nat) (ac bs ms qs l:aj) :FK tab spP bu 20 (n+8) 21 [.agg (bk ac bs ms qs),.ag false 7 l]=
  (bif decide ((↑l.length:Int)≤(64:Int)) then
 aP
 (rO.D
 [DV.ag false 7 l,
 DV.func (49:FuncId)
 [DV.aI [DV.ag false 3 ac,DV.ag false 1 bs,DV.ag false 1 ms,DV.ag false 1 qs] (0:Nat)]])
 (bif
 !l.any
 (bW
 (DV.func (49:FuncId)
 [DV.aI [DV.ag false 3 ac,DV.ag false 1 bs,DV.ag false 1 ms,DV.ag false 1 qs]
 (0:Nat)].reverse)) then
 aP
 (EU.D
 [DV.agg [DV.ag false 3 ac,DV.ag false 1 bs,DV.ag false 1 ms,DV.ag false 1 qs],DV.ag false 7 l])
 (some (DV.bool ((↑(cd ac.length (cZ ac bs ms qs l)).length:Int)==(0:Int))))
 else some (DV.bool false))
 else some (DV.bool false)):=by kernel_rfl
theorem t13 (n:Nat) (ac bs ms qs l:aj) :FK tab spP bu 20 (n+8) 20 [.agg (bk ac bs ms qs),.ag false 7 l]=
  (aP
 (zI.D [DV.agg [DV.ag false 3 ac,DV.ag false 1 bs,DV.ag false 1 ms,DV.ag false 1 qs],DV.ag false 7 l])
 (bif BI ac.length l then
 aP
 (EU.D
 [DV.agg [DV.ag false 3 ac,DV.ag false 1 bs,DV.ag false 1 ms,DV.ag false 1 qs],DV.ag false 7 l])
 (some (DV.bool ((↑(cd ac.length (cZ ac bs ms qs l)).length:Int)==(0:Int))))
 else some (DV.bool false))):=by kernel_rfl
theorem Mb:BG.ok Tryz.prog 50:=fun ds r hD hv=>by
 obtain ⟨ac,bs,ms,qs,a0,f,t,a,c,a5,a6,rfl⟩:=hD
 cases hv
 exact aL (lsp:=bu) a7 aY 20 (0+8) (t10 0 ac bs ms qs a0 f t a c a5 a6)
theorem Yn:BG.ok Tryz.prog 94:=fun ds r hD hv=>by
 obtain ⟨ac,bs,ms,qs,a0,f,t,a,c,a5,a6,rfl⟩:=hD
 cases hv
 exact aL (lsp:=bu) a7 aY 20 (0+8) (t11 0 ac bs ms qs a0 f t a c a5 a6)
theorem Hu: ∀f s,wc f=some s→s.ok Tryz.prog f:=aM Mb (aM Yn (aM Yj aY))
theorem zJ {φ:aw→Bool} {l:aj} :jG (fun j=>φ (l[j]?.getD [])) l.length 0=l.all φ:=by
 refine Bool.eq_iff_iff.2 ?_
 rw [List.all_eq_true]
 constructor
 ·intro h e he
  obtain ⟨j,hj,rfl⟩:=List.mem_iff_getElem.1 he
  have :=xu h j (Nat.zero_le _) (by omega)
  rw [iH hj] at this
  exact this
 ·intro h
  refine xD fun j _ hj=> ?_
  rw [iH (by omega:j < l.length)]
  exact h _ (List.getElem_mem _)
theorem Kc (L m:Nat) (ac bs ms qs:aj) {l:aj} (hl:l.length≤1000) (hz: ∀e∈l,aq z7 e=true) :
  aG (LB tab wc lN L (m+4) h470 zu) (OL l (bk ac bs ms qs) 0) (cond (l.all (fS ac.length)) (.ex 0,St.of [(1,.d (.ag false 7 l))] []) (.ret,St.of [(4,.d (.bool false))] [])):=by
 rw [← zJ]
 refine qy (fun j:Nat=>OL l (bk ac bs ms qs) (j:Nat)) _ l.length _ _ (by simp) (by simp) (fun j hj K=> ?_) (fun K=> ?_)
 ·rw [Ym,cr hj,cond_true,bf hj,hz _ (List.getElem_mem hj),cond_true,a8 (by omega),iH hj]
  refine (au ⟨_,_,_,_,_,_,_,_,_,_,_,rfl⟩).trans ?_
  show cond (!fS ac.length l[j]) _ _=_
  cases fS ac.length l[j]<;>rfl
 ·rw [Ym,aO]
  rfl
theorem Yo:zI.ok Tryz.prog 47:=fun ds r hD hv=>by
 obtain ⟨ac,bs,ms,qs,x,rfl,hx,hl,hz⟩:=hD
 cases hv
 refine Sl.rr rfl hx ?_
 generalize ar x=l at *
 refine aL (lsp:=lN) a7 Hu 20 (0+8) ((t14 0 ac bs ms qs l).trans ?_)
 have hL:=Kc 20 (0+4) ac bs ms qs hl hz
 unfold BI
 cases h:l.all (fS ac.length) with
 | true=>
  rw [h] at hL
  refine (au hL).trans ?_
  rw [Bool.true_and,show decide (((l.length:Nat) :Int)≤(64:Int))=decide (l.length≤64) from decide_eq_decide.2 (by omega)]
 | false=>
  rw [h] at hL
  exact au hL
theorem Kf (L m:Nat) {ac bs ms qs l:aj} (hB:BK ac bs ms qs) (hl:l.length≤1000) (hp: ∀e∈l,PO ac.length e) :
  aG (LB tab wc lN L (m+4) h480 j4) (BH l (bk ac bs ms qs) (.d .af) 0 none none) (.ex 0,OM (il 21 50021 1 (cd ac.length (cZ ac bs ms qs l))) (eP 3 1 (cd ac.length (cZ ac bs ms qs l))) (eR 3 1 (cd ac.length (cZ ac bs ms qs l)))):=by
 have h6:=hB.n6
 have hD: ∀i,i < ac.length→zH.D [.agg (bk ac bs ms qs),.ag false 7 l,.int .i64 ((i:Nat) :Int)]:=fun i hi=>⟨_,_,_,_,_,_,rfl,hB,hi,hl,hp⟩
 have hr: ∀(O:aj) (i:Nat),i < ac.length→O.length≤i→decide ((O++[[DV.int .i64 ((i:Nat) :Int)]]).length * 8≤room∧(O++[[DV.int .i64 ((i:Nat) :Int)]]).length≤room)=true:=fun O i h1 h2=>xo (by rw [List.length_append,List.length_singleton]; omega) (by omega)
 refine mN (fun v i a1 a2=>BH l (bk ac bs ms qs) v (i:Nat) a1 a2) OM (s:=21) (s':=50021) (el:=3) (sz:=1) ac.length (cZ ac bs ms qs l) (fun i=>[.int .i64 ((i:Nat) :Int)]) ?_ ?_ ?_ ?_ ?_ ?_
 ·intro i hi k
  rw [L9,cr hi,cond_true,a8 (by omega)]
  exact au (hD i hi)
 ·intro i hi O hO k
  rw [L',cr hi,cond_true,a8 (by omega),hr O i hi hO]
  exact au (hD i hi)
 ·intro i hi O hO k
  rw [Ma,cr hi,cond_true,a8 (by omega),hr O i hi hO]
  exact au (hD i hi)
 ·intro k
  rw [L9,aO]
  rfl
 ·intro O k
  rw [L',aO]
  rfl
 ·intro O k
  rw [Ma,aO]
  rfl
theorem ON:EU.ok Tryz.prog 48:=fun ds r hD hv=>by
 obtain ⟨ac,bs,ms,qs,x,rfl,hB,hx,hl,hp⟩:=hD
 cases hv
 refine Sl.rr rfl hx ?_
 generalize ar x=l at *
 refine bI.GY (el:=3) (aL (lsp:=lN) a7 Hu 20 (0+8) ((t17 0 ac bs ms qs l).trans ?_))
 refine mO (Kf 20 (0+4) hB hl hp) (fun h=> ?_) (fun h=> ?_) (fun h=> ?_)
 ·rw [h]
  rfl
 ·cases ho:cd ac.length (cZ ac bs ms qs l) with
  | nil=>exact absurd ho h
  | cons a t=>rfl
 ·cases ho:cd ac.length (cZ ac bs ms qs l) with
  | nil=>exact absurd ho h
  | cons a t=>rfl
theorem Hv: ∀f s,spP f=some s→s.ok Tryz.prog f:=aM Hn (aM Yc (aM Yo (aM ON aY)))
theorem Yp {n:Nat} {e:aw} (hz:aq z7 e=true) (h:fS n e=true) :PO n e:=by
 unfold fS EP at h
 simp at h
 exact ⟨hz,by omega,by omega,by omega,by omega,by omega,by omega,by omega,by omega,by omega⟩
theorem Hw {n:Nat} {e:aw} (h:PO n e) :fS n e=true:=by
 obtain ⟨_,h1,h2,h3,h4,h5,h6,h7,h8,h9⟩:=h
 unfold fS EP
 simp
 omega
def uO (ac bs ms qs l:aj) :Bool:=BI ac.length l&&(cd ac.length (cZ ac bs ms qs l)).isEmpty
def zK:aR where
 D ds:= ∃ac bs ms qs x,ds=[.agg (bk ac bs ms qs),x]∧BK ac bs ms qs∧Sl 7 x∧(ar x).length≤1000∧ ∀e∈ar x,aq z7 e=true
 val ds:=match ds with | [.agg [.ag _ _ ac,.ag _ _ bs,.ag _ _ ms,.ag _ _ qs],x]=>some (.bool (uO ac bs ms qs (ar x))) | _=>none
theorem Kg (n:Nat) (l:aj) (ac bs ms qs:aj) (h:ac.length=n) :l.any (bW (QT (bk ac bs ms qs)))= !l.all (fS n):=by
 subst h
 induction l with
 | nil=>rfl
 | cons e l ih=>
  rw [List.any_cons,List.all_cons,ih]
  show (!fS ac.length e||_)=_
  cases fS ac.length e<;>rfl
theorem po_all {n:Nat} {l:aj} (hz: ∀e∈l,aq z7 e=true) (h:l.all (fS n)=true) : ∀e∈l,PO n e:=fun e he=>Yp (hz e he) (List.all_eq_true.1 h e he)
theorem tR (O:aj) :(((O.length:Nat) :Int)==(0:Int))=O.isEmpty:=by
 cases O with
 | nil=>rfl
 | cons a t=>
  refine beq_eq_false_iff_ne.2 ?_
  rw [List.length_cons]
  omega
theorem Yq:zK.ok Tryz.prog 21:=fun ds r hD hv=>by
 obtain ⟨ac,bs,ms,qs,x,rfl,hB,hx,hl,hz⟩:=hD
 cases hv
 refine Sl.rr rfl hx ?_
 generalize ar x=l at *
 refine aL (lsp:=bu) a7 Hv 20 (0+8) ((t12 0 ac bs ms qs l).trans ?_)
 unfold uO BI
 rw [show decide (((l.length:Nat) :Int)≤(64:Int))=decide (l.length≤64) from decide_eq_decide.2 (by omega)]
 cases decide (l.length≤64) with
 | false=>
  rw [Bool.and_false]
  rfl
 | true=>
  refine (au ⟨_,_,_,rfl,Sl.ag 7 false l,by show l.length≤1000000; omega,hz,L5.b ac bs ms qs⟩).trans ?_
  show cond (!l.any (bW (QT (bk ac bs ms qs)))) _ _=_
  rw [Kg ac.length l ac bs ms qs rfl,Bool.not_not,Bool.and_true]
  cases ha:l.all (fS ac.length) with
  | false=>rfl
  | true=>
   refine (au ⟨ac,bs,ms,qs,.ag false 7 l,rfl,hB,Sl.ag 7 false l,hl,po_all hz ha⟩).trans ?_
   rw [tR]
   rfl
theorem Yr:zK.ok Tryz.prog 20:=fun ds r hD hv=>by
 obtain ⟨ac,bs,ms,qs,x,rfl,hB,hx,hl,hz⟩:=hD
 cases hv
 refine Sl.rr rfl hx ?_
 generalize ar x=l at *
 refine aL (lsp:=bu) a7 Hv 20 (0+8) ((t13 0 ac bs ms qs l).trans ?_)
 refine (au ⟨ac,bs,ms,qs,.ag false 7 l,rfl,Sl.ag 7 false l,hl,hz⟩).trans ?_
 unfold uO
 cases ha:BI ac.length l with
 | false=>rfl
 | true=>
  refine (au ⟨ac,bs,ms,qs,.ag false 7 l,rfl,hB,Sl.ag 7 false l,hl,po_all hz (Bool.and_eq_true_iff.1 ha).1⟩).trans ?_
  rw [tR]
  rfl
end Go.Proofs.YtglbgfcegifeeaaGreat.Fz
namespace Go.Proofs.YtglbgfcegifeeaaGreat
open Go Go.Proofs Go.RowKit Vm
noncomputable def zL:Code:=Tryz.f84.body.getD .skip
noncomputable def KL:Code:=Sf (Se (kB (kA (kB (kB zL)))))
noncomputable def KB:Code:=Se (kA (kB (kB KL)))
theorem OO:Tryz.f84.body=some zL:=by kernel_rfl
theorem Kh:zL= .seq (kA zL) (.seq (kA (kB zL)) (.seq (.seq (kA (kA (kB (kB zL)))) (.block 0 (.loop KL))) (.seq (kA (kB (kB (kB zL)))) .ret))):=by kernel_rfl
theorem Hy:KL= .seq (kA KL) (.seq (kA (kB KL)) (.seq (.block 1 KB) (kB (kB (kB KL))))):=by kernel_rfl
theorem OP:KB= .seq (kA KB) (.seq (kA (kB KB)) (kB (kB KB))):=by kernel_rfl
def Ki:AC:=c84.body.erase
def AL:AC:=match Sg (xB (xA (xB (xB Ki)))) with | .loop _ b=>b | c=>c
def AB:AC:=Sg (xA (xB (xB AL)))
def hA:Hint:=⟨0,[5,8,9,10,11],[20,50020],[],[]⟩
def hS:Hint:=⟨0,[5,8,9,10],[20,50020],[],[]⟩
def hP:Hint:=⟨0,[5,7,8,9,10],[7,20,50020],[],[]⟩
def hC:Hint:=⟨0,[5,7,8,9,10,16],[7,20,50020],[],[]⟩
def hF:Hint:=⟨0,[4],[20,50020],[],[]⟩
def h0:Hint:=⟨0,[0],[],[],[]⟩
def h5:Hint:=⟨0,[0,5],[],[],[]⟩
def SA (l:aj) (v:AV) (i:Int) (o1 o2:Option Ob) :St:=St.of [(5,v),(8,.d (.ag false 7 l)),(9,.d (.int .i64 (l.length:Int))),(10,.d (.int .i64 i))] [(20,o1),(50020,o2)]
def QW (l:aj) (v:AV) (i:Int) (b:Bool) (o1 o2:Option Ob) :St:=St.of [(5,v),(8,.d (.ag false 7 l)),(9,.d (.int .i64 (l.length:Int))),(10,.d (.int .i64 i)),(11,.d (.bool b))] [(20,o1),(50020,o2)]
def SP (l:aj) (v:AV) (i:Int) (e:aw) (o1 o2:Option Ob) :St:=St.of [(5,v),(7,.ptr 7 7 0 0),(8,.d (.ag false 7 l)),(9,.d (.int .i64 (l.length:Int))),(10,.d (.int .i64 i))] [(7,some (.aC 60 7 [e])),(20,o1),(50020,o2)]
def SC (l:aj) (v:AV) (i:Int) (e:aw) (b:Bool) (o1 o2:Option Ob) :St:=St.of [(5,v),(7,.ptr 7 7 0 0),(8,.d (.ag false 7 l)),(9,.d (.int .i64 (l.length:Int))),(10,.d (.int .i64 i)),(16,.d (.bool b))] [(7,some (.aC 60 7 [e])),(20,o1),(50020,o2)]
def SF (v:AV) (o1 o2:Option Ob) :St:=St.of [(4,v)] [(20,o1),(50020,o2)]
def p7 (a0 a1 a2 a3 a4 a5 a6:Int) :aw:=[.int .i64 a0,.int .i64 a1,.int .i64 a2,.int .i64 a3,.int .i64 a4,.int .i64 a5,.int .i64 a6]
def Form (v:AV) (o1 o2:Option Ob) :Prop:=(v= .d .af∧o1=none∧o2=none)∨(∃O:aj,v= .ah 20 7 0 O.length∧o1=some (.aC 60 7 O)∧o2=none)∨(∃O:aj,v= .ah 50020 7 0 O.length∧o1=none∧o2=some (.aC 60 7 O))
theorem pw (O:aj) :Form (il 20 50020 7 O) (eP 60 7 O) (eR 60 7 O):=
 EJ (M:=Form) (fun _=> .inl ⟨rfl,rfl,rfl⟩) (fun _ _=> .inr (.inl ⟨O,rfl,rfl,rfl⟩)) (fun _ _=> .inr (.inr ⟨O,rfl,rfl,rfl⟩))
theorem v1 (L n:Nat) (l:aj) (k:aX) :LB tab aV bu L (n+4) h0 (xA Ki) (St.of [(0,.d (.ag false 7 l))] []) k=k .bC (St.of [(0,.d (.ag false 7 l))] []):=by kernel_rfl
theorem v2 (L n:Nat) (l:aj) (k:aX) :LB tab aV bu L (n+4) h5 (xA (xB Ki)) (St.of [(0,.d (.ag false 7 l))] []) k=k .bC (St.of [(0,.d (.ag false 7 l)),(5,.d .af)] []):=by kernel_rfl
theorem v3 (L n:Nat) (l:aj) (k:aX) :LB tab aV bu L (n+4) hS (xA (xA (xB (xB Ki)))) (St.of [(0,.d (.ag false 7 l)),(5,.d .af)] []) k=k .bC (SA l (.d .af) 0 none none):=by kernel_rfl
theorem vA (L n:Nat) (l:aj) (i:Nat) {v:AV} {o1 o2:Option Ob} (hv:Form v o1 o2) (k:aX) :LB tab aV bu L (n+4) hA (xA AL) (SA l v i o1 o2) k=k .bC (QW l v i (decide ((i:Int) < (l.length:Int))) o1 o2):=by
 rcases hv with ⟨rfl,rfl,rfl⟩ | ⟨O,rfl,rfl,rfl⟩ | ⟨O,rfl,rfl,rfl⟩<;>kernel_rfl
theorem vC (L n:Nat) (l:aj) (i:Nat) {v:AV} {o1 o2:Option Ob} (hv:Form v o1 o2) (k:aX) :LB tab aV bu L (n+4) hS (xA (xB AL)) (QW l v i true o1 o2) k=k .bC (SA l v i o1 o2):=by
 rcases hv with ⟨rfl,rfl,rfl⟩ | ⟨O,rfl,rfl,rfl⟩ | ⟨O,rfl,rfl,rfl⟩<;>kernel_rfl
theorem vX (L n:Nat) (l:aj) (i:Nat) {v:AV} {o1 o2:Option Ob} (hv:Form v o1 o2) (k:aX) :LB tab aV bu L (n+4) hS (xA (xB AL)) (QW l v i false o1 o2) k=k (.ex 0) (QW l v i false o1 o2):=by
 rcases hv with ⟨rfl,rfl,rfl⟩ | ⟨O,rfl,rfl,rfl⟩ | ⟨O,rfl,rfl,rfl⟩<;>kernel_rfl
theorem vP (L n:Nat) (l:aj) (i:Nat) {v:AV} {o1 o2:Option Ob} (hv:Form v o1 o2) (k:aX) :LB tab aV bu L (n+4) hP (xA AB) (SA l v i o1 o2) k=
  cond (decide ((0:Int)≤((i:Nat) :Int))) (aA l[((i:Nat) :Int).toNat]? fun e=>cond (aq z7 e) (k .bC (SP l v i (EO e) o1 o2)) none) none:=by
 rcases hv with ⟨rfl,rfl,rfl⟩ | ⟨O,rfl,rfl,rfl⟩ | ⟨O,rfl,rfl,rfl⟩<;>kernel_rfl
theorem vD (L n:Nat) (l:aj) (i:Nat) {v:AV} {o1 o2:Option Ob} (hv:Form v o1 o2) (k:aX) :LB tab aV bu L (n+4) hS (xB (xB (xB AL))) (SA l v i o1 o2) k=k .bC (SA l v (IntKind.i64.wrap ((i:Int)+1)) o1 o2):=by
 rcases hv with ⟨rfl,rfl,rfl⟩ | ⟨O,rfl,rfl,rfl⟩ | ⟨O,rfl,rfl,rfl⟩<;>kernel_rfl
theorem vF (L n:Nat) (l:aj) (i:Int) {v:AV} {o1 o2:Option Ob} (hv:Form v o1 o2) (k:aX) :LB tab aV bu L (n+4) hF (xA (xB (xB (xB Ki)))) (QW l v i false o1 o2) k=k .bC (SF v o1 o2):=by
 rcases hv with ⟨rfl,rfl,rfl⟩ | ⟨O,rfl,rfl,rfl⟩ | ⟨O,rfl,rfl,rfl⟩<;>kernel_rfl
def OQ (O:aj) (e:aw) :Bool:=decide ((60:Nat)=60∧(7:Nat)=7∧(7:Nat)=7∧(0:Nat)=0∧O.length=O.length∧(O++[e]).length * 56≤room∧(O++[e]).length≤room)
theorem vQ0 (L n:Nat) (l:aj) (i:Nat) (a0 a1 a2 a3 a4 a5 a6:Int) {v:AV} {o1 o2:Option Ob} (hv:Form v o1 o2) (k:aX) :LB tab aV bu L (n+4) hS (xB (xB AB)) (SC l v i (p7 a0 a1 a2 a3 a4 a5 a6) false o1 o2) k=k .bC (SA l v i o1 o2):=by
 rcases hv with ⟨rfl,rfl,rfl⟩ | ⟨O,rfl,rfl,rfl⟩ | ⟨O,rfl,rfl,rfl⟩<;>kernel_rfl
theorem vQA (L n:Nat) (l:aj) (i:Nat) (a0 a1 a2 a3 a4 a5 a6:Int) (k:aX) :LB tab aV bu L (n+4) hS (xB (xB AB)) (SC l (.d .af) i (p7 a0 a1 a2 a3 a4 a5 a6) true none none) k=k .bC (SA l (.ah 20 7 0 1) i (some (.aC 60 7 [p7 a0 a1 a2 a3 a4 a5 a6])) none):=by kernel_rfl
theorem vQB (L n:Nat) (l O:aj) (i:Nat) (a0 a1 a2 a3 a4 a5 a6:Int) (k:aX) :LB tab aV bu L (n+4) hS (xB (xB AB)) (SC l (.ah 20 7 0 O.length) i (p7 a0 a1 a2 a3 a4 a5 a6) true (some (.aC 60 7 O)) none) k=
  cond (OQ O (p7 a0 a1 a2 a3 a4 a5 a6)) (k .bC (SA l (.ah 50020 7 0 (O++[p7 a0 a1 a2 a3 a4 a5 a6]).length) i none (some (.aC 60 7 (O++[p7 a0 a1 a2 a3 a4 a5 a6]))))) none:=by kernel_rfl
theorem vQC (L n:Nat) (l O:aj) (i:Nat) (a0 a1 a2 a3 a4 a5 a6:Int) (k:aX) :LB tab aV bu L (n+4) hS (xB (xB AB)) (SC l (.ah 50020 7 0 O.length) i (p7 a0 a1 a2 a3 a4 a5 a6) true none (some (.aC 60 7 O))) k=
  cond (OQ O (p7 a0 a1 a2 a3 a4 a5 a6)) (k .bC (SA l (.ah 20 7 0 (O++[p7 a0 a1 a2 a3 a4 a5 a6]).length) i (some (.aC 60 7 (O++[p7 a0 a1 a2 a3 a4 a5 a6]))) none)) none:=by kernel_rfl
def zM (O:aj) :aH:=cond (decide (O.length=O.length)) (some (.sl (.own 60) 7 O)) (cond (decide (0+O.length≤O.length)) (some (.sl .ro 7 (List.take O.length O))) none)
theorem ad6:jt (SF (.d .af) none none) [.t 4] some=some .af:=by kernel_rfl
theorem ad7 (O:aj) :jt (SF (.ah 20 7 0 O.length) (some (.aC 60 7 O)) none) [.t 4] some=zM O:=by kernel_rfl
theorem ad8 (O:aj) :jt (SF (.ah 50020 7 0 O.length) none (some (.aC 60 7 O))) [.t 4] some=zM O:=by kernel_rfl
def QX:Oper:=⟨none,.move (.tmp 0),0, "",#[],none⟩
noncomputable def BJ (k:Nat) :Oper:=match (rJ (kA (kB KB)))[k]? with | some o=>o | none=>QX
theorem cc1:bY Tryz.prog [] 23 (kA zL)=some (xA Ki).erase:=by kernel_rfl
theorem cc2:bY Tryz.prog [] 23 (kA (kB zL))=some (xA (xB Ki)).erase:=by kernel_rfl
theorem cc3:bY Tryz.prog [] 23 (kA (kA (kB (kB zL))))=some (xA (xA (xB (xB Ki)))).erase:=by kernel_rfl
theorem cc4:bY Tryz.prog [] 23 (kA (kB (kB (kB zL))))=some (xA (xB (xB (xB Ki)))).erase:=by kernel_rfl
theorem ccA:bY Tryz.prog [] 23 (kA KL)=some (xA AL).erase:=by kernel_rfl
theorem ccC:bY Tryz.prog [] 23 (kA (kB KL))=some (xA (xB AL)).erase:=by kernel_rfl
theorem ccD:bY Tryz.prog [] 23 (kB (kB (kB KL)))=some (xB (xB (xB AL))).erase:=by kernel_rfl
theorem ccP:bY Tryz.prog [] 23 (kA KB)=some (xA AB).erase:=by kernel_rfl
theorem ccQ:bY Tryz.prog [] 23 (kB (kB KB))=some (xB (xB AB)).erase:=by kernel_rfl
theorem ok1:df [1] (kA zL)=true:=by kernel_rfl
theorem ok2:df [1] (kA (kB zL))=true:=by kernel_rfl
theorem ok3:df [1] (kA (kA (kB (kB zL))))=true:=by kernel_rfl
theorem ok4:df [1] (kA (kB (kB (kB zL))))=true:=by kernel_rfl
theorem okA:df [1] (kA KL)=true:=by kernel_rfl
theorem okC:df [1] (kA (kB KL))=true:=by kernel_rfl
theorem okD:df [1] (kB (kB (kB KL)))=true:=by kernel_rfl
theorem okP:df [1] (kA KB)=true:=by kernel_rfl
theorem okQ:df [1] (kB (kB KB))=true:=by kernel_rfl
noncomputable def idR:Nat:=match kA (kB KB) with | .region id _ _=>id | _=>0
theorem OR:kA (kB KB)= .region idR (rJ (kA (kB KB))) false:=by kernel_rfl
theorem Ys:(rJ (kA (kB KB))).size=3:=by kernel_rfl
theorem at0:(rJ (kA (kB KB)))[0]? =some (BJ 0):=by kernel_rfl
theorem lf:(rJ (kA (kB KB)))[1]? =some (BJ 1):=by kernel_rfl
theorem kW:(rJ (kA (kB KB)))[2]? =some (BJ 2):=by kernel_rfl
theorem op0:(BJ 0).op= .move (.tmp 1):=by kernel_rfl
theorem ad9:(BJ 0).dst=some 14:=by kernel_rfl
theorem ad':(BJ 0).guard=none:=by kernel_rfl
theorem aea:(BJ 2).dst=some 16:=by kernel_rfl
theorem aeb:(BJ 2).guard=none:=by kernel_rfl
theorem Yt:dr [1] (BJ 0)=true:=by kernel_rfl
theorem Yu:dr [14,1] (BJ 1)=true:=by kernel_rfl
theorem Yv:dr [14,1] (BJ 2)=true:=by kernel_rfl
def x15:aN:=⟨some 15,none,[],true,.load true 7 (.t 7) z7⟩
theorem ci1:ix Tryz.prog [] 23 (rJ (kA (kB KB))) (BJ 1)=some x15:=by kernel_rfl
noncomputable def call2:Call:=match (BJ 2).op with | .call c=>c | _=>⟨.value (.tmp 0),#[],#[]⟩
theorem op2:(BJ 2).op= .call call2:=by kernel_rfl
theorem Kj:call2.callee= .value (.tmp 14):=by kernel_rfl
theorem Yw:call2.args= #[.tmp 15]:=by kernel_rfl
theorem ntmps22:Tryz.f84.ntmps=23:=by kernel_rfl
theorem Yx:bm (oE Tryz.prog) Tryz.f84.results.toList=some [.t 4]:=by kernel_rfl
theorem func22:Tryz.prog.funcs[84]? =some Tryz.f84:=by kernel_rfl
noncomputable abbrev Yy:FuncId→aw→aH:=eZ tab aV bu 20 (0+4)
theorem cB:dc Tryz.prog Yy:=mi a7 aY 20 (0+4)
def gk (e:aw) :Value:= .agg #[.int .i64 (aa e 0).ak,.int .i64 (aa e 1).ak,.int .i64 (aa e 2).ak,.int .i64 (aa e 3).ak,.int .i64 (aa e 4).ak,.int .i64 (aa e 5).ak,.int .i64 (aa e 6).ak]
theorem Kk {w:World} {S:Nat→Nat→Prop} {a0 a1 a2 a3 a4 a5 a6:Int} {v:Value} (h:aW w S (.agg (p7 a0 a1 a2 a3 a4 a5 a6)) v) :v=gk (p7 a0 a1 a2 a3 a4 a5 a6):=by
 simp only [aW,p7,cg] at h
 obtain ⟨vs,rfl,_,_,rfl,rfl,_,_,rfl,rfl,_,_,rfl,rfl,_,_,rfl,rfl,_,_,rfl,rfl,_,_,rfl,rfl,_,_,rfl,rfl,rfl⟩:=h
 rfl
theorem dO {P:Program} {ops:Array Oper} {Q:Exit→Act→World→Prop} {i:Nat} {rest:List Nat} {a:Act} {w:World} {o:Oper} (h:ops[i]? =some o) (hg:o.guard=none) (hw:o.wp P a w (wpOps P ops Q rest) Q) :wpOps P ops Q (i::rest) a w:=by
 simp only [wpOps,h,Region.wanted,hg,if_true]
 exact .inl hw
theorem ff {P:Program} {ops:Array Oper} {Q:Exit→Act→World→Prop} {i:Nat} {rest:List Nat} {a:Act} {w:World} {o:Oper} (h:ops[i]? =some o) (hw:if Region.wanted o (yielded ops a.tmps) then o.wp P a w (wpOps P ops Q rest) Q∨(o.asks P a w∧LetsOut Q) else wpOps P ops Q rest (a.put o.dst undef) w) :wpOps P ops Q (i::rest) a w:=by
 simp only [wpOps,h]
 exact hw
section
variable {X:Hid} {w0:World} {G0:Nat→Prop} {S0:Nat→Nat→Prop} {g:FuncId} {caps:Array Value} {l:aj} {dec:Nat→Bool}
abbrev vf (g:FuncId) (caps:Array Value) :Value:= .func (.func g) #[] caps
def kY (X:Hid) (g:FuncId) (caps:Array Value) (l:aj) (dec:Nat→Bool) :Prop:=
 ∀i (hi:i < l.length) (w:World) (G:Nat→Prop),X.H i G w→oY Tryz.prog g (#[gk l[i]]++caps) w fun v w'=>v= .bool (dec i)∧ ∃G',X.H (i+1) G' w'∧bJ (fun k=>k < w.heap.size∧ ¬ G k) w w'∧ ∀k,G' k→G k∨w.heap.size≤k
abbrev OS (X:Hid) (w0:World) (G0:Nat→Prop) (S0:Nat→Nat→Prop) (g:FuncId) (caps:Array Value):=ec X w0 G0 S0 23 [(1,vf g caps)]
def rowP (l:aj) (i:Nat) :aw:=EO (l[i]?.getD [])
def SI (l:aj) (dec:Nat→Bool) (i j:Nat) :St:=SA l (il 20 50020 7 (bH i dec (rowP l))) (j:Nat) (eP 60 7 (bH i dec (rowP l))) (eR 60 7 (bH i dec (rowP l)))
theorem EW (gn:kY X g caps l dec) (C4: ∀b o,S0 b o→b < w0.heap.size∧ ¬ G0 b) {i:Nat} (hi:i < l.length) {a0 a1 a2 a3 a4 a5 a6:Int} (he:l[i]=p7 a0 a1 a2 a3 a4 a5 a6) {v:AV} {o1 o2:Option Ob} (hv:Form v o1 o2)
  {a:Act} {w:World} (hJ:OS X w0 G0 S0 g caps i (SP l v i (p7 a0 a1 a2 a3 a4 a5 a6) o1 o2) a w) {Q:Exit→Act→World→Prop}
  (hQ: ∀a' w',OS X w0 G0 S0 g caps (i+1) (SC l v i (p7 a0 a1 a2 a3 a4 a5 a6) (dec i) o1 o2) a' w'→Q .normal a' w') :(kA (kB KB)).wp Tryz.prog Q a w:=by
 rw [OR]
 refine wp_region ?_
 rw [Ys,show List.range 3=[0,1,2] from rfl]
 refine dO at0 ad' ?_
 have hp1:a.eval (.tmp 1)=vf g caps:=by
  have :=hJ.CI 1 (vf g caps) (by simp)
  show a.tmps.getD 1 undef=_
  rw [Array.getD_eq_getD_getElem?,this]
  rfl
 refine r5 (pins:=[(1,vf g caps)]) ad9 (by decide) Yt hJ (u:=vf g caps) (by rw [show execOp a.eval (BJ 0)=pure (Next.value (a.eval (.tmp 1))) by unfold execOp; rw [op0],hp1]; rfl) fun a' w' BL=> ?_
 refine ff lf ?_
 refine tH (pins:=[(14,vf g caps),(1,vf g caps)]) cB ci1 Yu BL (st':=((SP l v i (p7 a0 a1 a2 a3 a4 a5 a6) o1 o2).put 14 .undef).put 15 (.d (.agg (p7 a0 a1 a2 a3 a4 a5 a6)))) rfl fun b2 w2 Dk=> ?_
 refine dO kW aeb ?_
 have aec:b2.eval (.tmp 14)=vf g caps:=by
  have :=Dk.CI 14 (vf g caps) (by simp)
  show b2.tmps.getD 14 undef=_
  rw [Array.getD_eq_getD_getElem?,this]
  rfl
 have aed:b2.eval (.tmp 15)=gk (p7 a0 a1 a2 a3 a4 a5 a6):=by
  obtain ⟨⟨G,hl,hG,hH,ρ,S,hI⟩,-,-⟩:=Dk
  have h15:aE w2 S ρ (.d (.agg (p7 a0 a1 a2 a3 a4 a5 a6))) (b2.tmps.getD 15 undef):=hI.env 15
  simp only [aE] at h15
  exact Kk h15
 refine Nr (pins:=[(14,vf g caps),(1,vf g caps)]) aea (by decide) Yv C4 Dk (g:=g) (args:= #[gk l[i]]++caps) ?_ (b:=dec i) (fun G hH=>gn i hi w2 G hH) fun b3 w3 Kl=> ?_
 ·unfold execOp
  rw [op2]
  simp only [Kj,Yw,resolve,aec,Deferred.ofValue,Sem.run_bind,Sem.run_pure,Result.andThen_ok,invoke,Array.empty_append]
  rw [he,← aed,show Array.map b2.eval #[Operand.tmp 15]= #[b2.eval (.tmp 15)] from by simp]
 ·have hk:=(Kl.dU hC).C3 (pins':=[(1,vf g caps)]) (fun t v h=>by simp at h; simp [h])
  have hs:((((SP l v i (p7 a0 a1 a2 a3 a4 a5 a6) o1 o2).put 14 .undef).put 15 (.d (.agg (p7 a0 a1 a2 a3 a4 a5 a6)))).put 16 (.d (.bool (dec i)))).dU hC=SC l v i (p7 a0 a1 a2 a3 a4 a5 a6) (dec i) o1 o2:=by
   rcases hv with ⟨rfl,rfl,rfl⟩ | ⟨O,rfl,rfl,rfl⟩ | ⟨O,rfl,rfl,rfl⟩<;>rfl
  rw [hs] at hk
  exact hQ _ _ hk
theorem eh {i:Nat} (hi:i < l.length) :rowP l i=EO l[i]:=by
 unfold rowP
 rw [List.getElem?_eq_getElem hi]
 rfl
theorem Dl {O:aj} {e:aw} (h:O.length≤10000) :OQ O e=true:=by
 refine decide_eq_true ?_
 rw [List.length_append,List.length_singleton]
 unfold room
 omega
theorem Km (gn:kY X g caps l dec) (C4: ∀b o,S0 b o→b < w0.heap.size∧ ¬ G0 b) (hz: ∀e∈l,aq z7 e=true) (hl:l.length≤1000) {i:Nat} (hi:i < l.length) {a:Act} {w:World} (hJ:OS X w0 G0 S0 g caps i (SI l dec i i) a w) {Q:Exit→Act→World→Prop}
  (hQ: ∀a' w',OS X w0 G0 S0 g caps (i+1) (SI l dec (i+1) (i+1)) a' w'→Q .normal a' w') :KL.wp Tryz.prog Q a w:=by
 have hO:=tE i dec (rowP l)
 have hf:=pw (bH i dec (rowP l))
 obtain ⟨a0,a1,a2,a3,a4,a5,a6,he⟩:=fB (hz _ (List.getElem_mem hi))
 have he:l[i]=p7 a0 a1 a2 a3 a4 a5 a6:=he
 have Yz:EO l[i]=p7 a0 a1 a2 a3 a4 a5 a6:=by rw [he]; rfl
 rw [Hy]
 refine wp_seq (dg (N:=23) (R:=[]) (pins:=[(1,vf g caps)]) cB (h:=hA) rfl okA ccA (fun k=>(vA 20 0 l i hf k)) hJ fun b1 w1 BL=> ?_)
 rw [cr hi] at BL
 refine wp_seq (dg (N:=23) (R:=[]) (pins:=[(1,vf g caps)]) cB (h:=hS) rfl okC ccC (fun k=>vC 20 0 l i hf k) BL fun b2 w2 Dk=> ?_)
 refine wp_seq (wp_block ?_)
 rw [OP]
 refine wp_seq (dg (N:=23) (R:=[]) (pins:=[(1,vf g caps)]) cB (h:=hP) rfl okP ccP (e:= .bC) (st':=SP l (il 20 50020 7 (bH i dec (rowP l))) i (p7 a0 a1 a2 a3 a4 a5 a6) (eP 60 7 (bH i dec (rowP l))) (eR 60 7 (bH i dec (rowP l)))) (fun k=> ?_) Dk fun b3 w3 Kl=> ?_)
 ·rw [vP 20 0 l i hf k,decide_eq_true (show (0:Int)≤((i:Nat) :Int) by omega),cond_true,gZ hi,hz _ (List.getElem_mem hi),cond_true,Yz]
 refine wp_seq (EW gn C4 hi he hf Kl fun b4 w4 BM=> ?_)
 have key: ∀a5 w5,OS X w0 G0 S0 g caps (i+1) (SI l dec (i+1) i) a5 w5→(kB (kB (kB KL))).wp Tryz.prog Q a5 w5:=fun b5 w5 EX=>
  dg (N:=23) (R:=[]) (pins:=[(1,vf g caps)]) cB (h:=hS) rfl okD ccD (fun k=>vD 20 0 l i (pw (bH (i+1) dec (rowP l))) k) EX fun b6 w6 Mc=>hQ b6 w6 (by rw [a8 (by omega)] at Mc; exact Mc)
 cases hd:dec i with
 | false=>
  rw [hd] at BM
  refine dg (N:=23) (R:=[]) (pins:=[(1,vf g caps)]) cB (h:=hS) rfl okQ ccQ (fun k=>vQ0 20 0 l i a0 _ _ _ _ _ _ hf k) BM fun b5 w5 EX=>key b5 w5 ?_
  unfold SI
  rw [eD,hd,cond_false,List.append_nil]
  exact EX
 | true=>
  rw [hd] at BM
  have gA:rowP l i=p7 a0 a1 a2 a3 a4 a5 a6:=by rw [eh hi,Yz]
  have YA:bH (i+1) dec (rowP l)=bH i dec (rowP l)++[p7 a0 a1 a2 a3 a4 a5 a6]:=by rw [eD,hd,cond_true,gA]
  unfold SI at key
  rw [YA] at key
  generalize bH i dec (rowP l)=O at *
  by_cases YB:O=[]
  ·subst YB
   exact dg (N:=23) (R:=[]) (pins:=[(1,vf g caps)]) cB (h:=hS) rfl okQ ccQ (fun k=>vQA 20 0 l i a0 _ _ _ _ _ _ k) BM fun b5 w5 EX=>key b5 w5 EX
  ·cases hp:fw (O.length - 1) with
   | true=>
    have h0:=tF (s:=20) (s':=50020) (el:=60) (sz:=7) YB hp
    have h1:=LO (s:=20) (s':=50020) (el:=60) (sz:=7) YB hp (p7 a0 a1 a2 a3 a4 a5 a6)
    rw [h0.1,h0.2.1,h0.2.2] at BM
    rw [h1.1,h1.2.1,h1.2.2] at key
    have hx: ∀k,LB tab aV bu 20 (0+4) hS (xB (xB AB)) (SC l (.ah 20 7 0 O.length) i (p7 a0 a1 a2 a3 a4 a5 a6) true (some (.aC 60 7 O)) none) k=k .bC (SA l (.ah 50020 7 0 (O++[p7 a0 a1 a2 a3 a4 a5 a6]).length) i none (some (.aC 60 7 (O++[p7 a0 a1 a2 a3 a4 a5 a6])))):=fun k=>(vQB 20 0 l O i a0 _ _ _ _ _ _ k).trans (by rw [Dl (by omega)]; rfl)
    exact dg (N:=23) (R:=[]) (pins:=[(1,vf g caps)]) cB (h:=hS) rfl okQ ccQ hx BM fun b5 w5 EX=>key b5 w5 EX
   | false=>
    have h0:=tG (s:=20) (s':=50020) (el:=60) (sz:=7) YB hp
    have h1:=LP (s:=20) (s':=50020) (el:=60) (sz:=7) YB hp (p7 a0 a1 a2 a3 a4 a5 a6)
    rw [h0.1,h0.2.1,h0.2.2] at BM
    rw [h1.1,h1.2.1,h1.2.2] at key
    have hx: ∀k,LB tab aV bu 20 (0+4) hS (xB (xB AB)) (SC l (.ah 50020 7 0 O.length) i (p7 a0 a1 a2 a3 a4 a5 a6) true none (some (.aC 60 7 O))) k=k .bC (SA l (.ah 20 7 0 (O++[p7 a0 a1 a2 a3 a4 a5 a6]).length) i (some (.aC 60 7 (O++[p7 a0 a1 a2 a3 a4 a5 a6]))) none):=fun k=>(vQC 20 0 l O i a0 _ _ _ _ _ _ k).trans (by rw [Dl (by omega)]; rfl)
    exact dg (N:=23) (R:=[]) (pins:=[(1,vf g caps)]) cB (h:=hS) rfl okQ ccQ hx BM fun b5 w5 EX=>key b5 w5 EX
theorem YC (O:aj) :jN (SF (il 20 50020 7 O) (eP 60 7 O) (eR 60 7 O)) [.t 4]=some (cond O.isEmpty .af (.sl (.own 60) 7 O)):=by
 have e: ∀st,jt st [.t 4] some=jN st [.t 4]:=fun st=>by rw [gy]; simp
 have q:zM O=some (.sl (.own 60) 7 O):=by
  unfold zM
  rw [decide_eq_true rfl,cond_true]
 rw [← e]
 by_cases hO:O=[]
 ·subst hO
  exact ad6
 ·have cu:O.isEmpty=false:=by cases O with | nil=>exact absurd rfl hO | cons a t=>rfl
  rw [cu,cond_false]
  cases hp:fw (O.length - 1) with
  | true=>
   have h0:=tF (s:=20) (s':=50020) (el:=60) (sz:=7) hO hp
   rw [h0.1,h0.2.1,h0.2.2]
   exact (ad7 O).trans q
  | false=>
   have h0:=tG (s:=20) (s':=50020) (el:=60) (sz:=7) hO hp
   rw [h0.1,h0.2.1,h0.2.2]
   exact (ad8 O).trans q
theorem Md (gn:kY X g caps l dec) (C4: ∀b o,S0 b o→b < w0.heap.size∧ ¬ G0 b) (hz: ∀e∈l,aq z7 e=true) (hl:l.length≤1000) (hH:X.H 0 G0 w0) (nY:X.B≤w0.heap.size) {vl:Value} (Fs:aW w0 S0 (.ag false 7 l) vl) :
  Calls Tryz.prog 84 #[vl,vf g caps] w0 fun e w'=> ∃v S',e= .returned v∧iC (qv w0 G0) S0 (cond (bH l.length dec (rowP l)).isEmpty .af (.sl (.own 60) 7 (bH l.length dec (rowP l)))) v w' S':=by
 refine calls_of_wp func22 OO ?_
 rw [ntmps22,Kh]
 have hJ:=G1 (X:=X) (G0:=G0) (w0:=w0) (S0:=S0) (N:=23) (pins:=[(1,vf g caps)]) (ds:=[.ag false 7 l]) (vs:=[vl,vf g caps]) (show (23:Nat)≤49997 by omega) (show (2:Nat)≤23 by omega) (fun t x hx=>by
  cases t with
  | zero=>
   simp only [List.getElem?_cons_zero,Option.some.injEq] at hx
   subst hx
   exact ⟨vl,rfl,Fs⟩
  | succ t=>simp at hx) (fun b o h=>(C4 b o h).1) hH nY (fun t v h=>by
  simp only [List.mem_singleton,Prod.mk.injEq] at h
  obtain ⟨rfl,rfl⟩:=h
  simp [Array.getElem?_append])
 refine wp_seq (dg (N:=23) (R:=[]) (pins:=[(1,vf g caps)]) cB (h:=h0) rfl ok1 cc1 (fun k=>v1 20 0 l k) hJ fun b1 w1 BL=> ?_)
 refine wp_seq (dg (N:=23) (R:=[]) (pins:=[(1,vf g caps)]) cB (h:=h5) rfl ok2 cc2 (fun k=>v2 20 0 l k) BL fun b2 w2 Dk=> ?_)
 refine wp_seq (wp_seq (dg (N:=23) (R:=[]) (pins:=[(1,vf g caps)]) cB (h:=hS) rfl ok3 cc3 (fun k=>v3 20 0 l k) Dk fun b3 w3 Kl=>wp_block ?_))
 refine wp_loop_rounds (l.length+1) ?_
 have fin: ∀a w,OS X w0 G0 S0 g caps l.length (QW l (il 20 50020 7 (bH l.length dec (rowP l))) (l.length:Nat) false (eP 60 7 (bH l.length dec (rowP l))) (eR 60 7 (bH l.length dec (rowP l)))) a w→
   (Code.seq (kA (kB (kB (kB zL)))) .ret).wp Tryz.prog (bodyPost Tryz.prog Tryz.f84 fun e w'=> ∃v S',e= .returned v∧iC (qv w0 G0) S0 (cond (bH l.length dec (rowP l)).isEmpty .af (.sl (.own 60) 7 (bH l.length dec (rowP l)))) v w' S') a w:=fun a w hJ=>by
  refine wp_seq (dg (N:=23) (R:=[]) (pins:=[(1,vf g caps)]) cB (h:=hF) rfl ok4 cc4 (fun k=>vF 20 0 l (l.length:Nat) (pw (bH l.length dec (rowP l))) k) hJ fun a' w' zq=>wp_ret ?_)
  have hm:mP (cond (bH l.length dec (rowP l)).isEmpty .af (.sl (.own 60) 7 (bH l.length dec (rowP l)))):=by
   cases (bH l.length dec (rowP l)).isEmpty
   ·exact rm _ _ _
   ·exact rl
  obtain ⟨h1,v,h2,S',h3⟩:=GZ Yx (YC _) hm zq
  exact ⟨h1,v,h2,v,S',rfl,h3⟩
 have key: ∀m i,i+m=l.length→ ∀a w,OS X w0 G0 S0 g caps i (SI l dec i i) a w→Code.rounds Tryz.prog KL (Exit.inBlock 0 (Exit.then ((Code.seq (kA (kB (kB (kB zL)))) .ret).wp Tryz.prog (bodyPost Tryz.prog Tryz.f84 fun e w'=> ∃v S',e= .returned v∧iC (qv w0 G0) S0 (cond (bH l.length dec (rowP l)).isEmpty .af (.sl (.own 60) 7 (bH l.length dec (rowP l)))) v w' S')) (bodyPost Tryz.prog Tryz.f84 fun e w'=> ∃v S',e= .returned v∧iC (qv w0 G0) S0 (cond (bH l.length dec (rowP l)).isEmpty .af (.sl (.own 60) 7 (bH l.length dec (rowP l)))) v w' S'))) (m+1) a w:=by
  intro m
  induction m with
  | zero=>
   intro i him a w hJi
   have hi:i=l.length:=by omega
   subst hi
   rw [rounds_succ]
   rw [Hy]
   have hf:=pw (bH l.length dec (rowP l))
   refine wp_seq (dg (N:=23) (R:=[]) (pins:=[(1,vf g caps)]) cB (h:=hA) rfl okA ccA (fun k=>vA 20 0 l l.length hf k) hJi fun b1 w1 BL=> ?_)
   rw [aO] at BL
   refine wp_seq (dg (N:=23) (R:=[]) (pins:=[(1,vf g caps)]) cB (h:=hS) rfl okC ccC (fun k=>vX 20 0 l l.length hf k) BL fun b2 w2 Dk=> ?_)
   exact fin b2 w2 Dk
  | succ m ih=>
   intro i him a w hJi
   rw [rounds_succ]
   exact Km gn C4 hz hl (by omega) hJi fun a' w' zq=>ih (i+1) (by omega) a' w' zq
 exact key l.length 0 (by omega) b3 w3 Kl
end
def qC (h:Hint) :AC→AC
 | .seq a b=> .seq (qC h a) (qC h b)
 | .cond c a b=> .cond c (qC h a) (qC h b)
 | .block id b=> .block id (qC h b)
 | .ret _=> .ret (some h)
 | c=>c
def h27:Hint:=⟨0,[1,3],[1001,1002],[],[]⟩
def A27:AC:=qC h27 c85.body.erase
def YD (e:aw) (M:aj) :St:=St.of [(0,.d (.agg e)),(1,.ptr 1001 1 0 0)] [(1001,some (.mix 49 1 [[.ah 1002 1 0 M.length]])),(1002,some (.aC 3 1 M))]
def E27 (b:Bool) (M:aj) (n:Nat) :St:=St.of [(1,.ptr 1001 1 0 0),(3,.d (.bool b))] [(1001,some (.mix 49 1 [[.ah 1002 1 0 n]])),(1002,some (.aC 3 1 M))]
theorem t27 (L n:Nat) (M:aj) (a0 a1 a2 a3 a4 a5 a6:Int) (k:aX) :LB tab aV bu L (n+4) h27 A27 (YD (p7 a0 a1 a2 a3 a4 a5 a6) M) k=
  (bif bif decide (a1 < (0:Int)) then true else decide (a1≥(↑M.length:Int)) then
 k Ex.ret
 (St.of [(1,AV.ptr 1001 1 0 0),(3,AV.d (DV.bool false))]
 [(1001,some (Ob.mix (49:TypeId) (1:Nat) [[AV.ah 1002 1 0 M.length]])),
 ((1002:Nat),some (Ob.aC 3 1 M))])
 else
 bif decide ((0:Int)≤a1) then
 bif decide (a1 < (↑M.length:Int)) then
 aA M[a1.toNat]? fun (e3:aw)=>
 aA e3[(0:Nat)]? fun (e5:DV)=>
 bif (DV.int .i64 0).uv e5 then
 bif decide (e5.ak < (1:Int)) then
 k Ex.ret
 (St.of [(1,AV.ptr 1001 1 0 0),(3,AV.d (DV.bool false))]
 [(1001,some (Ob.mix (49:TypeId) (1:Nat) [[AV.ah 1002 1 0 M.length]])),
 ((1002:Nat),some (Ob.aC 3 1 M))])
 else
 bif decide ((0:Int)≤a1) then
 bif decide (a1 < (↑M.length:Int)) then
 aA M[a1.toNat]? fun (e11:aw)=>
 aA e11[(0:Nat)]? fun (tL:DV)=>
 bif (DV.int .i64 0).uv tL then
 bif decide ((0:Int)≤a1) then
 bif decide (a1 < (↑M.length:Int)) then
 aA M[a1.toNat]? fun (k9:aw)=>
 bif decide ((1:Nat)≤k9.length) then
 k Ex.ret
 (St.of [(1,AV.ptr 1001 1 0 0),(3,AV.d (DV.bool true))]
 [(1001,some (Ob.mix (49:TypeId) (1:Nat) [[AV.ah 1002 1 0 M.length]])),
 ((1002:Nat),
 some
 (Ob.aC 3 1
 (M.set a1.toNat (DV.int .i64 (IntKind.i64.wrap (tL.ak - (1:Int)))::List.drop (1:Nat) k9))))])
 else none
 else none
 else none
 else none
 else none
 else none
 else none
 else none
 else none):=
 (show LB tab aV bu L (n+4) h27 A27 (YD (p7 a0 a1 a2 a3 a4 a5 a6) M) k=
 (cond (bif decide (a1 < (0:Int)) then true else decide (a1≥(↑M.length:Int)))
 (k .ret (St.of [(1,(.ptr 1001 1 0 0)),(3,(.d (.bool false)))] [(1001,(.some (.mix 49 1 [[(.ah 1002 1 0 (M.length))]]))),(1002,(.some (.aC 3 1 M)))]))
 (cond (decide ((0:Int)≤a1))
 (cond (decide (a1 < (↑M.length:Int)))
 (aA (M[(0:Nat)+a1.toNat]?)
 fun e3=>
 (aA (e3[(0:Nat)]?)
 fun e5=>
 (cond ((DV.int .i64 0).uv e5)
 (cond (decide (e5.ak < (1:Int)))
 (k .ret (St.of [(1,(.ptr 1001 1 0 0)),(3,(.d (.bool false)))] [(1001,(.some (.mix 49 1 [[(.ah 1002 1 0 (M.length))]]))),(1002,(.some (.aC 3 1 M)))]))
 (cond (decide ((0:Int)≤a1))
 (cond (decide (a1 < (↑M.length:Int)))
 (aA (M[(0:Nat)+a1.toNat]?)
 fun e11=>
 (aA (e11[(0:Nat)]?)
 fun tL=>
 (cond ((DV.int .i64 0).uv tL)
 (cond (decide ((0:Int)≤a1))
 (cond (decide (a1 < (↑M.length:Int)))
 (aA (M[(0:Nat)+a1.toNat]?)
 fun k9=>
 (cond (decide ((1:Nat)≤k9.length))
 (k .ret (St.of [(1,(.ptr 1001 1 0 0)),(3,(.d (.bool true)))] [(1001,(.some (.mix 49 1 [[(.ah 1002 1 0 (M.length))]]))),(1002,(.some (.aC 3 1 (M.set ((0:Nat)+a1.toNat) (DV.int .i64 (IntKind.i64.wrap (tL.ak - (1:Int)))::List.drop (1:Nat) k9)))))]))
 none))
 none)
 none)
 none)))
 none)
 none))
 none)))
 none)
 none)) from by kernel_rfl).trans (by first | rfl | (simp only [decide_true,decide_false,eq_self,and_true,true_and,and_self,cond_true,cond_false,Nat.le_refl,Int.le_refl,Option.getD_some,Option.getD_none,Int.toNat_natCast,List.take_length,List.drop_zero,Nat.zero_add,List.nil_append,List.all_nil,List.append_nil,Bool.true_and,Bool.and_true,cK,de,cL,cn,bZ,cp,Option.isSome_some,Option.isSome_none,Bool.false_eq_true,false_and,and_false,if_true,if_false,implies_true,Int.toNat_zero,Bool.not_false,Bool.not_true,bne_self_eq_false]; first | done | rfl))
noncomputable def B27:Code:=Tryz.f85.body.getD .skip
theorem OT:Tryz.f85.body=some B27:=by kernel_rfl
theorem func27:Tryz.prog.funcs[85]? =some Tryz.f85:=by kernel_rfl
theorem OU:bY Tryz.prog [2] 29 B27=some A27.erase:=by kernel_rfl
theorem aeh:df [1] B27=true:=by kernel_rfl
theorem ntmps27:Tryz.f85.ntmps=29:=by kernel_rfl
theorem YE:bm (oE Tryz.prog) Tryz.f85.results.toList=some [.t 3]:=by kernel_rfl
theorem OV:(Tryz.f85.name== "runtime.NumGoroutine")=false:=by kernel_rfl
theorem OW:Tryz.f85.body.isNone=false:=by kernel_rfl
abbrev z1:aw:=[.int .i64 0]
def fe (e:aw) :Int:=(aa e 0).ak
def qD (M:aj) (e:aw) :Bool:= !(decide (ef e < 0)||decide (ef e≥(M.length:Int)))&& !decide (fe (M[(ef e).toNat]?.getD []) < 1)
def px (M:aj) (e:aw) :aj:=cond (qD M e) (M.set (ef e).toNat [.int .i64 (fe (M[(ef e).toNat]?.getD []) - 1)]) M
def r8 (M:aj) (l:aj) :Nat→aj
 | 0=>M
 | i+1=>px (r8 M l i) (l[i]?.getD [])
theorem Hz (M:aj) (e:aw) :(px M e).length=M.length:=by
 unfold px
 cases qD M e
 ·rfl
 ·rw [cond_true,List.length_set]
theorem r9 (M l:aj) : ∀i,(r8 M l i).length=M.length
 | 0=>rfl
 | i+1=>(Hz _ _).trans (r9 M l i)
def tK (n:Int) :Prop:= -9223372036854775808≤n∧n≤9223372036854775807
def n9 (M:aj) :Prop:= ∀e∈M,aq z1 e=true∧tK (fe e)
theorem BN {e:aw} (h:aq z1 e=true) :e=[.int .i64 (fe e)]:=by
 simp only [aq,Bool.and_eq_true] at h
 obtain ⟨hl,hk⟩:=h
 have hl:e.length=1:=Nat.eq_of_beq_eq_true hl
 match e,hl with
 | [c],_=>
  simp only [ov,Bool.and_eq_true] at hk
  obtain ⟨n,rfl⟩:=jD hk.1
  rfl
theorem we {M:aj} (h:n9 M) (e:aw) :n9 (px M e):=by
 unfold px
 cases hd:qD M e with
 | false=>exact h
 | true=>
  rw [cond_true]
  intro r hr
  rcases List.mem_or_eq_of_mem_set hr with h1 | h1
  ·exact h r h1
  ·subst h1
   refine ⟨rfl,?_⟩
   unfold qD at hd
   simp at hd
   have dZ:(ef e).toNat < M.length:=by omega
   have h2:=(h _ (List.getElem_mem dZ)).2
   rw [List.getElem?_eq_getElem dZ] at hd
   simp only [Option.getD_some] at hd
   unfold tK at h2 ⊢
   show -9223372036854775808≤fe (M[(ef e).toNat]?.getD []) - 1∧fe (M[(ef e).toNat]?.getD []) - 1≤9223372036854775807
   rw [List.getElem?_eq_getElem dZ]
   simp only [Option.getD_some]
   omega
theorem zN {M:aj} (h:n9 M) (l:aj) : ∀i,n9 (r8 M l i)
 | 0=>h
 | i+1=>we (zN h l i) _
theorem YF (L n:Nat) {M:aj} (hM:n9 M) (a0 a1 a2 a3 a4 a5 a6:Int) (k:aX) :LB tab aV bu L (n+4) h27 A27 (YD (p7 a0 a1 a2 a3 a4 a5 a6) M) k=
  k .ret (E27 (qD M (p7 a0 a1 a2 a3 a4 a5 a6)) (px M (p7 a0 a1 a2 a3 a4 a5 a6)) M.length):=by
 rw [t27]
 have hf:ef (p7 a0 a1 a2 a3 a4 a5 a6)=a1:=rfl
 unfold px qD
 rw [hf]
 cases hc:(decide (a1 < 0)||decide (a1≥(M.length:Int))) with
 | true=>
  have :(bif decide (a1 < (0:Int)) then true else decide (a1≥(M.length:Int)))=true:=by rw [← hc]; cases decide (a1 < 0)<;>rfl
  rw [this]
  rfl
 | false=>
  have h1:(bif decide (a1 < (0:Int)) then true else decide (a1≥(M.length:Int)))=false:=by rw [← hc]; cases decide (a1 < 0)<;>rfl
  simp at hc
  have dZ:a1.toNat < M.length:=by omega
  have hz:=hM _ (List.getElem_mem dZ)
  have he:=BN hz.1
  have e0:M[a1.toNat][0]? =some (.int .i64 (fe M[a1.toNat])):=by rw [he]; rfl
  have el:decide (1≤M[a1.toNat].length)=true:=by rw [he]; rfl
  have ed:List.drop 1 M[a1.toNat]=[]:=by rw [he]; rfl
  have ei:(DV.int .i64 0).uv (DV.int .i64 (fe M[a1.toNat]))=true:=rfl
  have eI:(DV.int .i64 (fe M[a1.toNat])).ak=fe M[a1.toNat]:=rfl
  rw [h1]
  simp only [cond_false,decide_eq_true (show (0:Int)≤a1 by omega),decide_eq_true (show a1 < (M.length:Int) by omega),cond_true,bf dZ,e0,dW,ei,eI,el,ed]
  rw [List.getElem?_eq_getElem dZ]
  simp only [Option.getD_some,Bool.not_false,Bool.true_and]
  cases hd:decide (fe M[a1.toNat] < 1) with
  | true=>rfl
  | false=>
   have :=of_decide_eq_false hd
   have h64:=hz.2
   unfold tK at h64
   simp only [cond_false,Bool.not_false,cond_true]
   rw [bx (by omega) (by omega)]
   rfl
def Fx:Nat→Nat→Prop:=fun _ _=>False
theorem zO (w w':World) :Kept w w' Fx Fx:=⟨fun _ _ h=>h,fun _ _ h=>h.elim⟩
def HH (gb:Nat) (M l:aj) (i:Nat) (G:Nat→Prop) (w:World) :Prop:=
 ∃ρ:Nat→Nat×Nat,(ρ 1001).1=gb∧gb≠(ρ 1002).1∧(∀k,G k↔k=gb∨k=(ρ 1002).1)∧bO (fun _=>False) w Fx ρ 1001 (.mix 49 1 [[.ah 1002 1 0 M.length]])∧bO (fun _=>False) w Fx ρ 1002 (.aC 3 1 (r8 M l i))∧ ∀n,n % 100000=99999→ρ n=(0,0)
def XH (gb:Nat) (M l:aj) :Hid where
 B:=0
 H:=HH gb M l
 lt i G w h k hk:=by
  obtain ⟨ρ,h1,h2,h3,h4,h5,h6⟩:=h
  rcases (h3 k).1 hk with rfl | rfl
  ·rw [← h1]
   exact h4.lt.2.1
  ·exact h5.lt.2.1
 EL i G w w' h hb hs:=by
  obtain ⟨ρ,h1,h2,h3,h4,h5,h6⟩:=h
  exact ⟨ρ,h1,h2,h3,h4.kept (zO w w') (hb _ (.inr ((h3 _).2 (.inl h1)))) h4.lt.2.2,h5.kept (zO w w') (hb _ (.inr ((h3 _).2 (.inr rfl)))) h5.lt.2.2,h6⟩
def XF (w:World) (G:Nat→Prop) :Hid where
 B:=0
 H:=fun _ G' w'=>(∀k,G' k↔(k < w.heap.size∧ ¬ G k))∧(∀k,k < w.heap.size∧ ¬ G k→w'.heap[k]? =w.heap[k]?)∧w.heap.size≤w'.heap.size
 lt i G' w' h k hk:=Nat.lt_of_lt_of_le ((h.1 k).1 hk).1 h.2.2
 EL i G' w1 w2 h hb hs:=⟨h.1,fun k hk=>(hb k (.inr ((h.1 k).2 hk))).trans (h.2.1 k hk),Nat.le_trans h.2.2 hs⟩
def Dm (w:World) :World:={w with heap:= #[]}
theorem zP {B:Nat→Prop} {w:World} {S:Nat→Nat→Prop} {ρ:Nat→Nat×Nat} {s:Nat} {M:aj} (hM:n9 M) (h:bO B w S ρ s (.aC 3 1 M)) :bO (fun _=>False) w Fx ρ s (.aC 3 1 M):=by
 refine ⟨h.1,fun h=>h,?_,h.2.fits,h.2.len,fun _ h=>h⟩
 obtain ⟨cur,h1,h2,h3⟩:=h.2.here
 refine ⟨cur,h1,h2,fun i j hi hj=> ?_⟩
 obtain ⟨u,hu,hr⟩:=h3 i j hi hj
 refine ⟨u,hu,fun e c he hc=> ?_⟩
 have :=hr e c he hc
 have hme:e∈M:=List.mem_of_getElem? he
 rw [BN (hM e hme).1] at hc
 have YG:j=0:=by
  cases j with
  | zero=>rfl
  | succ j=>simp at hc
 subst YG
 simp only [List.getElem?_cons_zero,Option.some.injEq] at hc
 subst hc
 simpa only [aW] using this
theorem Kn {B:Nat→Prop} {w:World} {S:Nat→Nat→Prop} {ρ:Nat→Nat×Nat} {s n:Nat} (h:bO B w S ρ s (.mix 49 1 [[.ah 1002 1 0 n]])) :bO (fun _=>False) w Fx ρ s (.mix 49 1 [[.ah 1002 1 0 n]]):=by
 refine ⟨h.1,fun h=>h,?_,h.2.fits,h.2.len,fun _ h=>h⟩
 obtain ⟨cur,h1,h2,h3⟩:=h.2.here
 refine ⟨cur,h1,h2,fun i j hi hj=> ?_⟩
 obtain ⟨u,hu,hr⟩:=h3 i j hi hj
 refine ⟨u,hu,fun e c he hc=> ?_⟩
 have :=hr e c he hc
 have hi0:i=0:=by simp at hi; omega
 have YG:j=0:=by omega
 subst hi0 YG
 simp only [List.getElem?_cons_zero,Option.some.injEq] at he
 subst he
 simp only [List.getElem?_cons_zero,Option.some.injEq] at hc
 subst hc
 simpa only [aE] using this
abbrev c7 (g:Nat) :Value:= .pointer (some ⟨g,0,none⟩)
theorem Dn (w:World) (S:Nat→Nat→Prop) (a0 a1 a2 a3 a4 a5 a6:Int) :aW w S (.agg (p7 a0 a1 a2 a3 a4 a5 a6)) (gk (p7 a0 a1 a2 a3 a4 a5 a6)):=by
 simp only [aW,p7,cg]
 exact ⟨[.int .i64 a0,.int .i64 a1,.int .i64 a2,.int .i64 a3,.int .i64 a4,.int .i64 a5,.int .i64 a6],rfl,_,_,rfl,rfl,_,_,rfl,rfl,_,_,rfl,rfl,_,_,rfl,rfl,_,_,rfl,rfl,_,_,rfl,rfl,_,_,rfl,rfl,rfl⟩
def rz (M l:aj) (i:Nat) :Bool:=qD (r8 M l i) (l[i]?.getD [])
theorem Ko {gb:Nat} {M l:aj} (hM:n9 M) (hz: ∀e∈l,aq z7 e=true) :kY (XH gb M l) 85 #[c7 gb] l (rz M l):=by
 intro i hi w G hH
 obtain ⟨ρ,h1,h2,h3,h4,h5,h6⟩:=hH
 obtain ⟨a0,a1,a2,a3,a4,a5,a6,he⟩:=fB (hz _ (List.getElem_mem hi))
 have he:l[i]=p7 a0 a1 a2 a3 a4 a5 a6:=he
 have hgi:l[i]?.getD []=p7 a0 a1 a2 a3 a4 a5 a6:=by rw [List.getElem?_eq_getElem hi]; exact he
 have hMi:=zN hM l i
 have hlen:=r9 M l i
 refine .inl ⟨⟨Tryz.f85,func27,OV,OW⟩,calls_of_wp func27 OT ?_⟩
 rw [ntmps27]
 have hTs:(#[gk l[i]]++ #[c7 gb]++Array.replicate (29 - (#[gk l[i]]++ #[c7 gb]).size) undef).size=29:=by simp
 have hT0:(#[gk l[i]]++ #[c7 gb]++Array.replicate (29 - (#[gk l[i]]++ #[c7 gb]).size) undef)[0]? =some (gk l[i]):=by simp [Array.getElem?_append]
 have hT1:(#[gk l[i]]++ #[c7 gb]++Array.replicate (29 - (#[gk l[i]]++ #[c7 gb]).size) undef)[1]? =some (c7 gb):=by simp [Array.getElem?_append]
 generalize (#[gk l[i]]++ #[c7 gb]++Array.replicate (29 - (#[gk l[i]]++ #[c7 gb]).size) undef)=T at *
 let X:=XF w G
 have hXH:X.H 0 (fun k=>k < w.heap.size∧ ¬ G k) w:=⟨fun k=>Iff.rfl,fun k _=>rfl,Nat.le_refl _⟩
 have hJ:ec X (Dm w) (fun k=>k < w.heap.size∧ ¬ G k) Fx 29 [(1,c7 gb)] 0 (YD (p7 a0 a1 a2 a3 a4 a5 a6) (r8 M l i)) {tmps:=T,defers:=[]} w:=by
  have hold: ∀k,k < (Dm w).heap.size∨(k < w.heap.size∧ ¬ G k)→k < w.heap.size:=fun k hk=>by
   rcases hk with hk | hk
   ·exact absurd hk (Nat.not_lt_zero k)
   ·exact hk.1
  refine ⟨⟨_,hold,fun k hk=> .inl hk,hXH,ρ,Fx,?_⟩,⟨rfl,rfl,rfl,Nat.zero_le _,fun k hk=>absurd hk.1 (Nat.not_lt_zero k)⟩,fun t v h=> ?_,Nat.zero_le _⟩
  ·refine ⟨hTs,rfl,fun t=> ?_,fun m t want v hv _=> ?_,fun m t want v hv _=> ?_,fun s o hs=> ?_,fun s s' o o' hs dp hr=> ?_,fun _ _ h=>h.elim,fun _ _ h=>h,fun _ _ h=> .inl h,bJ.refl _ _,by omega,h6⟩
   ·match t with
    | 0=>
     show aE w Fx ρ (.d (.agg (p7 a0 a1 a2 a3 a4 a5 a6))) (T.getD 0 undef)
     rw [Array.getD_eq_getD_getElem?,hT0]
     simp only [aE,Option.getD_some]
     rw [he]
     exact Dn _ _ _ _ _ _ _ _ _
    | 1=>
     show aE w Fx ρ (.ptr 1001 1 0 0) (T.getD 1 undef)
     rw [Array.getD_eq_getD_getElem?,hT1]
     simp only [aE,h1,Option.getD_some]
    | t+2=>exact (show aE w Fx ρ .undef _ by simp only [aE])
   ·match m with
    | 0=>cases hv
    | 1=>cases hv
    | m+2=>cases hv
   ·match m with
    | 0=>cases hv
    | 1=>cases hv
    | m+2=>cases hv
   ·have hs:gq [(1001,some (.mix 49 1 [[.ah 1002 1 0 (r8 M l i).length]])),(1002,some (.aC 3 1 (r8 M l i)))] s=some o:=hs
    simp only [gq] at hs
    cases uH:Nat.beq s 1001 with
    | true=>
     have :=Nat.eq_of_beq_eq_true uH
     subst this
     rw [uH,cond_true] at hs
     cases hs
     rw [hlen]
     refine bO.Na h4 fun hb=> ?_
     rcases hb with hb | hb
     ·exact absurd hb (Nat.not_lt_zero _)
     ·exact hb.2 ((h3 _).2 (.inl h1))
    | false=>
     rw [uH,cond_false] at hs
     cases rW:Nat.beq s 1002 with
     | true=>
      have :=Nat.eq_of_beq_eq_true rW
      subst this
      rw [rW,cond_true] at hs
      cases hs
      refine bO.Na h5 fun hb=> ?_
      rcases hb with hb | hb
      ·exact absurd hb (Nat.not_lt_zero _)
      ·exact hb.2 ((h3 _).2 (.inr rfl))
     | false=>
      rw [rW,cond_false] at hs
      cases hs
   ·have two: ∀s o,(YD (p7 a0 a1 a2 a3 a4 a5 a6) (r8 M l i)).aT s=some o→s=1001∨s=1002:=fun s o hs=>by
     have hs:gq [(1001,some (.mix 49 1 [[.ah 1002 1 0 (r8 M l i).length]])),(1002,some (.aC 3 1 (r8 M l i)))] s=some o:=hs
     simp only [gq] at hs
     cases uH:Nat.beq s 1001 with
     | true=>exact .inl (Nat.eq_of_beq_eq_true uH)
     | false=>
      rw [uH,cond_false] at hs
      cases rW:Nat.beq s 1002 with
      | true=>exact .inr (Nat.eq_of_beq_eq_true rW)
      | false=>
       rw [rW,cond_false] at hs
       cases hs
    rcases two s o hs with rfl | rfl<;>rcases two s' o' dp with rfl | rfl
    ·rfl
    ·exact absurd (h1 ▸ hr) h2
    ·exact absurd (h1 ▸ hr.symm) h2
    ·rfl
  ·simp only [List.mem_singleton,Prod.mk.injEq] at h
   obtain ⟨rfl,rfl⟩:=h
   exact hT1
 refine dg (N:=29) (R:=[2]) (pins:=[(1,c7 gb)]) cB (h:=h27) rfl aeh OU (fun k=>YF 20 0 hMi a0 a1 a2 a3 a4 a5 a6 k) hJ fun a' w' zq=> ?_
 have hr:jN (E27 (qD (r8 M l i) (p7 a0 a1 a2 a3 a4 a5 a6)) (px (r8 M l i) (p7 a0 a1 a2 a3 a4 a5 a6)) (r8 M l i).length) [.t 3]=some (.bool (qD (r8 M l i) (p7 a0 a1 a2 a3 a4 a5 a6))):=rfl
 obtain ⟨r1,v,r2,S',r3⟩:=GZ YE hr (fun B B' w S v _ h=>h) zq
 refine ⟨r1,v,r2,v,rfl,?_⟩
 have hv:v= .bool (rz M l i):=by
  unfold rz
  rw [hgi]
  simpa only [jv,aW] using r3.res
 refine ⟨hv,?_⟩
 obtain ⟨⟨G',hl,hG,⟨x1,x2,x3⟩,ρ',S',hI⟩,fm,JC,_⟩:=zq
 have hp:=JC 1 (c7 gb) (by simp)
 have e1:aE w' S' ρ' (.ptr 1001 1 0 0) (a'.tmps.getD 1 undef):=hI.env 1
 rw [Array.getD_eq_getD_getElem?,hp] at e1
 simp only [aE,Option.getD_some,Value.pointer.injEq,Option.some.injEq,Addr.mk.injEq] at e1
 have YH:(ρ' 1001).1=gb:=e1.1.symm
 have s1:=hI.aT 1001 (.mix 49 1 [[.ah 1002 1 0 (r8 M l i).length]]) rfl
 have s2:=hI.aT 1002 (.aC 3 1 (px (r8 M l i) (p7 a0 a1 a2 a3 a4 a5 a6))) rfl
 have cu:gb≠(ρ' 1002).1:=fun h=>by
  have :=hI.apart 1001 1002 _ _ rfl rfl (YH.trans h)
  omega
 refine ⟨fun k=>k=gb∨k=(ρ' 1002).1,⟨ρ',YH,cu,fun k=>Iff.rfl,?_,?_,hI.pins⟩,⟨fm.os,fm.tape,fm.output,x3,x2⟩,fun k hk=> ?_⟩
 ·rw [hlen] at s1
  exact Kn s1
 ·have :r8 M l (i+1)=px (r8 M l i) (p7 a0 a1 a2 a3 a4 a5 a6):=by
   show px (r8 M l i) (l[i]?.getD [])=_
   rw [hgi]
  rw [this]
  exact zP (we hMi _) s2
 ·rcases hk with rfl | rfl
  ·exact .inl ((h3 _).2 (.inl rfl))
  ·by_cases hk:(ρ' 1002).1 < w.heap.size
   ·refine .inl (Classical.byContradiction fun hn=>s2.lt.1 (.inr ((x1 _).2 ⟨hk,hn⟩)))
   ·exact .inr (by omega)
def Kp (e:Bool) :aR where
 D ds:= ∃x,ds=[x]∧Sl 1 x∧(ar x).length≤1000∧(∀e∈ar x,aq z1 e=true)∧(ar x).isEmpty=e
 val ds:=match ds with | [x]=>some (cond e (.ag false 1 []) (.sl (.own 3) 1 (ar x))) | _=>none
noncomputable def spc (e:Bool) :FuncId→Option aR:=bL 83 (Kp e) aV
noncomputable def IE:Code:=Tryz.f42.body.getD .skip
def A14:AC:=c42.body.erase
def g0:Hint:=⟨0,[0,1],[],[],[]⟩
def g1:Hint:=⟨0,[0,5],[5,7],[],[]⟩
def YI (l M:aj) :St:=St.of [(0,.d (.ag false 7 l)),(1,.d (.ag false 1 M))] []
def SH (l M:aj) :St:=St.of [(0,.d (.ag false 7 l)),(5,.ptr 5 1 0 0)] [(5,some (.mix 49 1 [[.ah 7 1 0 M.length]])),(7,some (.aC 3 1 M))]
theorem OX:Tryz.f42.body=some IE:=by kernel_rfl
theorem func14:Tryz.prog.funcs[42]? =some Tryz.f42:=by kernel_rfl
theorem OY:(Tryz.f42.name== "runtime.NumGoroutine")=false:=by kernel_rfl
theorem OZ:Tryz.f42.body.isNone=false:=by kernel_rfl
theorem ntmps14:Tryz.f42.ntmps=11:=by kernel_rfl
theorem Me:bm (oE Tryz.prog) Tryz.f42.results.toList=some [.t 4]:=by kernel_rfl
theorem Kq:IE= .seq (kA IE) (.seq (kA (kB IE)) (.seq (kA (kB (kB IE))) .ret)):=by kernel_rfl
noncomputable def tS:Array Oper:=rJ (kA (kB (kB IE)))
noncomputable def idH:Nat:=match kA (kB (kB IE)) with | .region id _ _=>id | _=>0
theorem O0:kA (kB (kB IE))= .region idH tS false:=by kernel_rfl
theorem YJ:tS.size=4:=by kernel_rfl
noncomputable def oH (k:Nat) :Oper:=match tS[k]? with | some o=>o | none=>QX
theorem aem:tS[0]? =some (oH 0):=by kernel_rfl
theorem aen:tS[1]? =some (oH 1):=by kernel_rfl
theorem aeo:tS[2]? =some (oH 2):=by kernel_rfl
theorem aep:tS[3]? =some (oH 3):=by kernel_rfl
def y8:aN:=⟨some 8,none,[],true,.mv (.t 0)⟩
def y9:aN:=⟨some 9,none,[],true,.kd 85 [.t 5]⟩
def y4:aN:=⟨some 4,none,[],true,.mv (.t 10)⟩
theorem aeq:ix Tryz.prog [] 11 tS (oH 0)=some y8:=by kernel_rfl
theorem aer:ix Tryz.prog [] 11 tS (oH 1)=some y9:=by kernel_rfl
theorem YK:ix Tryz.prog [] 11 tS (oH 3)=some y4:=by kernel_rfl
theorem YL:(oH 2).guard=none:=by kernel_rfl
theorem YM:(oH 2).dst=some 10:=by kernel_rfl
noncomputable def HA:Call:=match (oH 2).op with | .call c=>c | _=>⟨.value (.tmp 0),#[],#[]⟩
theorem aes:(oH 2).op= .call HA:=by kernel_rfl
theorem Kr:HA.callee= .value (.func 84):=by kernel_rfl
theorem YN:HA.args= #[.tmp 8,.tmp 9]:=by kernel_rfl
theorem cH1:bY Tryz.prog [] 11 (kA IE)=some (xA A14).erase:=by kernel_rfl
theorem cH2:bY Tryz.prog [] 11 (kA (kB IE))=some (xA (xB A14)).erase:=by kernel_rfl
theorem hw0 (e:Bool) (L n:Nat) (l M:aj) (k:aX) :LB tab (spc e) bu L (n+4) g0 (xA A14) (YI l M) k=k .bC (YI l M):=by kernel_rfl
theorem hw1 (L n:Nat) (l M:aj) (k:aX) :LB tab (spc false) bu L (n+4) g1 (xA (xB A14)) (YI l M) k=aP ((Kp false).D [.ag false 1 M]) (k .bC (SH l M)):=by kernel_rfl
theorem Dp:(∃fn,Tryz.prog.funcs[84]? =some fn∧(fn.name== "runtime.NumGoroutine")=false∧fn.body.isNone=false):=⟨Tryz.f84,func22,by kernel_rfl,by kernel_rfl⟩
theorem t26 (n:Nat) (M:aj) :FK tab aV bu 20 (n+8) 83 [.sl .ro 1 M]=
  (bif decide (M.length=(0:Nat)) then some (DV.sl (SK.own (3:Nat)) (1:Nat) [])
 else
 bif M.all fun (e:aw)=>e.length==(1:Nat)&&e.all DV.one then
 bif decide (M.length * (8:Nat)≤room∧M.length≤room) then some (DV.sl (SK.own (3:Nat)) (1:Nat) M) else none
 else none):=
 (show FK tab aV bu 20 (n+8) 83 [.sl .ro 1 M]=
 (cond (decide (M.length=(0:Nat)))
 (some (.sl (SK.own (3:Nat)) 1 []))
 (cond (M.all fun (e:aw)=>e.length==(1:Nat)&&e.all DV.one)
 (cond (decide ((3:Nat)=(3:Nat)∧(1:Nat)=(1:Nat)∧(1:Nat)=(1:Nat)∧(0:Nat)=(0:Nat)∧(0:Nat)=(0:Nat)∧M.length * (8:Nat)≤room∧M.length≤room))
 (cond (decide (M.length=M.length))
 (some (.sl (SK.own (3:Nat)) 1 M))
 (cond (decide ((0:Nat)+M.length≤M.length))
 (some (.sl (SK.ro) 1 (List.take M.length M)))
 none))
 none)
 none)) from by kernel_rfl).trans (by first | rfl | (simp only [decide_true,decide_false,eq_self,and_true,true_and,and_self,cond_true,cond_false,Nat.le_refl,Int.le_refl,Option.getD_some,Option.getD_none,Int.toNat_natCast,List.take_length,List.drop_zero,Nat.zero_add,List.nil_append,List.all_nil,List.append_nil,Bool.true_and,Bool.and_true,cK,de,cL,cn,bZ,cp,Option.isSome_some,Option.isSome_none,Bool.false_eq_true,false_and,and_false,if_true,if_false,implies_true,Int.toNat_zero,Bool.not_false,Bool.not_true,bne_self_eq_false]; first | done | rfl))
theorem aet (n:Nat) :FK tab aV bu 20 (n+8) 83 [.af]=
  (some DV.af):=by kernel_rfl
theorem YO (e:Bool) :(Kp e).ok Tryz.prog 83:=fun ds r hD hv=>by
 obtain ⟨x,rfl,hx,hl,hz,hE⟩:=hD
 cases hv
 refine bI.kU hx ?_
 generalize ar x=M at *
 cases M with
 | nil=>
  subst hE
  refine bI.ag (fun _=> ?_) ?_
  ·exact bI.res (r:= .af) (aL (lsp:=bu) a7 aY 20 (0+8) (aet 0)) (fj.nil _ _) rfl
  ·exact bI.res (r:= .sl (.own 3) 1 []) (aL (lsp:=bu) a7 aY 20 (0+8) (t26 0 [])) (fj.sl _ _ _) rfl
 | cons a t=>
  subst hE
  refine bI.ag (fun h=>by cases h) ?_
  refine aL (lsp:=bu) a7 aY 20 (0+8) ((t26 0 (a::t)).trans ?_)
  have h1:((a::t).all fun (e:aw)=>e.length==1&&e.all DV.one)=true:=by
   rw [List.all_eq_true]
   intro e he
   rw [BN (hz e he)]
   rfl
  rw [decide_eq_false (by simp),h1,xo (by omega) (by omega)]
  rfl
theorem O1 (e:Bool) : ∀f s,spc e f=some s→s.ok Tryz.prog f:=aM (YO e) aY
theorem Dq {P:Program} {N:Nat} {R:List Nat} {tab:FuncId→Option bb} {sp:FuncId→Option aR} {lsp:Nat→Option bK} {L n:Nat} {w0:dw} {S0:Nat→Nat→Prop} {st st':St} {a:Act} {w:World} (aJ:dc P (eZ tab sp lsp L n)) {h:Hint} (Sh:h.fr=[]) {c:Code} {ac:AC} {e:Ex} (hc:bY P R N c=some ac.erase) (hx: ∀k,LB tab sp lsp L n h ac st k=k e st')
  (hI:cF w0 S0 N st a w) {Q:Exit→Act→World→Prop} (hQ: ∀a' w',cF w0 S0 N st' a' w'→Q e.to a' w') :c.wp P Q a w:=by
 have hb:=C5 hx
 unfold kp at hb
 split at hb
 ·rename_i st2 he
  simp only [Sh,St.rC,Option.some.injEq,Prod.mk.injEq] at hb
  obtain ⟨rfl,rfl⟩:=hb
  exact di aJ (pj lsp) c ac hc st st2 _ he a w hI Q fun a' w' e7=>hQ a' w' (e7.dU h)
 ·exact di aJ (pj lsp) c ac hc st st' _ hb a w hI Q hQ
theorem HB {w0:dw} {S0:Nat→Nat→Prop} {N:Nat} {ρ:Nat→Nat×Nat} {S:Nat→Nat→Prop} {st:St} {a:Act} {w:World} (hI:Inv w0 S0 N ρ S st a w) {G0:Nat→Prop} (hG: ∀k,w0.gz k→ ¬ G0 k) {w':World} {S':Nat→Nat→Prop}
  (hb:bJ (fun k=>k < w.heap.size∧ ¬ G0 k) w w') (Jf: ∀b o,S b o→S' b o) (jR: ∀b o,S' b o→S b o∨ ¬ (b < w.heap.size∧ ¬ G0 b)) (g8: ∀b o,S' b o→b < w'.heap.size) :Inv w0 S0 N ρ S' (St.of [] []) a w':=by
 have hold: ∀k,w0.gz k→k < w.heap.size∧ ¬ G0 k:=fun k hk=>⟨Nat.lt_of_lt_of_le (w0.lt k hk) hI.below.size,hG k hk⟩
 refine ⟨hI.size,hI.defers,fun t=>(show aE w' S' ρ .undef _ by simp only [aE]),fun m t want v hv _=>(by cases hv),fun m t want v hv _=>(by cases hv),fun s o hs=>(by cases hs),fun s s' o o' hs _ _=>(by cases hs),g8,fun b o h=>Jf b o (hI.up b o h),fun b o h=> ?_,hI.below.trans (hb.mono hold),hI.small,hI.pins⟩
 rcases jR b o h with h1 | h1
 ·exact hI.new b o h1
 ·exact .inr fun ho=>h1 (hold b ho)
def py (O:aj) :DV:=cond O.isEmpty .af (.sl (.own 60) 7 O)
theorem wg {w0:dw} {S0:Nat→Nat→Prop} {l:aj} {X:Hid} {G0:Nat→Prop} {g:FuncId} {caps:Array Value} {dec:Nat→Bool} (gn:kY X g caps l dec) (hz: ∀e∈l,aq z7 e=true) (hl:l.length≤1000)
  {N:Nat} {st:St} {a:Act} {w:World} {ρ:Nat→Nat×Nat} {S:Nat→Nat→Prop} (hI:Inv w0 S0 N ρ S st a w) {o:Oper} {t:Nat} (cz:o.dst=some t) (ht:t < N) {vl:Value} (Fs:aW w S (.ag false 7 l) vl) (bU:(execOp a.eval o).run Tryz.prog w=(callFunc 84 #[vl,vf g caps]).run Tryz.prog w)
  (hH:X.H 0 G0 w) (nY:X.B≤w.heap.size) (hG: ∀k,w0.gz k→ ¬ G0 k) (Sc: ∀b o,S b o→ ¬ G0 b) {K:Act→World→Prop} {Q:Exit→Act→World→Prop}
  (hK: ∀a' w',cF w0 S0 N (place t (py (bH l.length dec (rowP l))) (St.of [] [])) a' w'→K a' w') :o.wp Tryz.prog a w K Q:=by
 unfold Oper.wp
 obtain ⟨fn,hU,gC,jX⟩:=Dp
 have jd:(callFunc 84 #[vl,vf g caps]).run Tryz.prog w= .ok (.enter 84 #[vl,vf g caps]) w:=by
  simp only [callFunc,Sem.run_bind,run_program,Result.andThen_ok,hU,gC,jX,Bool.false_eq_true,if_false,Sem.run_pure]
 rw [bU,jd,Oper.upon_enter]
 refine (Md gn (fun b o h=>⟨hI.live b o h,Sc b o h⟩) hz hl hH nY Fs).mono fun e w' he=> ?_
 obtain ⟨v,S',rfl,hp⟩:=he
 have e7:=HB hI hG hp.below hp.up hp.new hp.live
 rw [cz]
 exact hK _ _ (fc e7 (base:=fun k=>k < w.heap.size∧ ¬ G0 k) (fun k hk=>⟨Nat.lt_of_lt_of_le (w0.lt k hk) hI.below.size,hG k hk⟩) ht hp.res fun s o hs=>by cases hs)
theorem O2 {B:Nat→Prop} {w:World} {S:Nat→Nat→Prop} {ρ ρ':Nat→Nat×Nat} {s s' el sz:Nat} {M:aj} (h:bO B w S ρ s (.aC el sz M)) (hρ:ρ' s'=ρ s) :bO B w S ρ' s' (.aC el sz M):=by
 refine ⟨h.1,?_⟩
 rw [hρ]
 exact h.2
theorem HC {B:Nat→Prop} {w:World} {S:Nat→Nat→Prop} {ρ ρ':Nat→Nat×Nat} {s s' t t' n:Nat} (h:bO B w S ρ s (.mix 49 1 [[.ah t 1 0 n]])) (hρ:ρ' s'=ρ s) (hτ:ρ' t'=ρ t) :bO (fun _=>False) w Fx ρ' s' (.mix 49 1 [[.ah t' 1 0 n]]):=by
 have gA: ∀e∈([[.ah t' 1 0 n]] :List (List AV)),e.length=1∧e.all AV.one=true:=fun e he=>by
  simp only [List.mem_singleton] at he
  subst he
  exact ⟨rfl,rfl⟩
 refine ⟨gA,?_⟩
 rw [hρ]
 refine ⟨fun h=>h,?_,h.2.fits,h.2.len,fun _ h=>h⟩
 obtain ⟨cur,h1,h2,h3⟩:=h.2.here
 refine ⟨cur,h1,h2,fun i j hi hj=> ?_⟩
 obtain ⟨u,hu,hr⟩:=h3 i j hi hj
 refine ⟨u,hu,fun e c he hc=> ?_⟩
 have hi0:i=0:=by simp at hi; omega
 have YG:j=0:=by omega
 subst hi0 YG
 simp only [List.getElem?_cons_zero,Option.some.injEq] at he
 subst he
 simp only [List.getElem?_cons_zero,Option.some.injEq] at hc
 subst hc
 have :=hr [.ah t 1 0 n] (.ah t 1 0 n) rfl rfl
 simp only [aE] at this ⊢
 rw [hτ]
 exact this
def YP (O:aj) :St:=St.of [(4,.ah 10 7 0 O.length)] [(10,some (.aC 60 7 O))]
theorem aeu (O:aj) :jt (YP O) [.t 4] some=zM O:=by kernel_rfl
theorem YQ (O:aj) :jN (YP O) [.t 4]=some (.sl (.own 60) 7 O):=by
 have e:jt (YP O) [.t 4] some=jN (YP O) [.t 4]:=by rw [gy]; simp
 rw [← e,aeu]
 unfold zM
 rw [decide_eq_true rfl,cond_true]
theorem HD {w0:dw} {S0:Nat→Nat→Prop} {O:aj} {a:Act} {w:World} (hI:cF w0 S0 11 (place 10 (py O) (St.of [] [])) a w) {R:Ending→World→Prop} (hR: ∀v w' S',iC w0 S0 (py O) v w' S'→R (.returned v) w') :
  wpOps Tryz.prog tS (Exit.then (Code.ret.wp Tryz.prog (bodyPost Tryz.prog Tryz.f42 R)) (bodyPost Tryz.prog Tryz.f42 R)) [3] a w:=by
 refine ff aep ?_
 cases O with
 | nil=>
  refine gf cB YK hI (st':=((St.of [] []).put 10 (.d .af)).put 4 (.d .af)) rfl fun a' w' e7=>wp_ret ?_
  obtain ⟨ρ,S,e7⟩:=e7
  obtain ⟨v,S',h1,h2⟩:=gV (fn:=Tryz.f42) e7 Me (r:= .af) rfl
  exact ⟨e7.defers,v,h1,hR v w' S' h2⟩
 | cons b t=>
  refine gf cB YK hI (st':=((((St.of [] []).at_ 10 (.aC 60 7 (b::t))).put 10 (.ah 10 7 0 (b::t).length))).put 4 (.ah 10 7 0 (b::t).length)) rfl fun a' w' e7=>wp_ret ?_
  have sS:=e7.dU ⟨0,[4],[10],[],[]⟩
  have hs:(((((St.of [] []).at_ 10 (.aC 60 7 (b::t))).put 10 (.ah 10 7 0 (b::t).length))).put 4 (.ah 10 7 0 (b::t).length)).dU ⟨0,[4],[10],[],[]⟩=YP (b::t):=rfl
  rw [hs] at sS
  obtain ⟨ρ,S,sS⟩:=sS
  obtain ⟨v,S',h1,h2⟩:=gV (fn:=Tryz.f42) sS Me (YQ (b::t))
  exact ⟨sS.defers,v,h1,hR v w' S' h2⟩
theorem EY {a:Act} {w:World} {vl:Value} {g:FuncId} {caps:Array Value} (h8:a.eval (.tmp 8)=vl) (h9:a.eval (.tmp 9)=vf g caps) :(execOp a.eval (oH 2)).run Tryz.prog w=(callFunc 84 #[vl,vf g caps]).run Tryz.prog w:=by
 unfold execOp
 rw [aes]
 simp only [Kr,YN,resolve,Act.eval,Deferred.ofValue,Sem.run_bind,Sem.run_pure,Result.andThen_ok,invoke,Array.empty_append,Array.append_empty]
 rw [show Array.map a.eval #[Operand.tmp 8,Operand.tmp 9]= #[a.eval (.tmp 8),a.eval (.tmp 9)] from by simp,h8,h9]
set_option maxRecDepth 100000 in
theorem Dr {l M:aj} (hz: ∀e∈l,aq z7 e=true) (hl:l.length≤1000) (hM:n9 M) (hlM:M.length≤1000) (cu:M.isEmpty=false) :bI Tryz.prog 42 [.ag false 7 l,.ag false 1 M] (py (bH l.length (rz M l) (rowP l))):=by
 intro w vs S0 o ha hS
 refine .inl ⟨⟨Tryz.f42,func14,OY,OZ⟩,calls_of_wp func14 OX ?_⟩
 have hlen:vs.length=2:=by
  have :=cg.length _ _ ((dy (ds:=[.ag false 7 l,.ag false 1 M]) rfl).1 ha).1
  simpa using this
 obtain ⟨ρ0,zn⟩:=zm ha hS (n:=11) (by simp) (by omega)
 rw [ntmps14,Kq]
 have aev:(St.init [.ag false 7 l,.ag false 1 M]).dU g0=YI l M:=rfl
 have hI0:cF o S0 11 (YI l M) {tmps:=vs.toArray++Array.replicate (11 - vs.toArray.size) undef,defers:=[]} w:=by
  have :=cF.dU ⟨_,_,zn⟩ g0
  rwa [aev] at this
 have hc:=fun e=>mi (lsp:=bu) a7 (O1 e) 20 (0+4)
 have jo:(Kp false).D [.ag false 1 M]:=⟨_,rfl,Sl.ag _ _ _,hlM,fun e he=>(hM e he).1,cu⟩
 refine wp_seq (Dq (N:=11) (R:=[]) (hc false) (h:=g0) rfl cH1 (fun k=>hw0 false 20 0 l M k) hI0 fun a1 w1 CP=> ?_)
 refine wp_seq (Dq (N:=11) (R:=[]) (hc false) (h:=g1) rfl cH2 (e:= .bC) (st':=SH l M) (fun k=>(hw1 20 0 l M k).trans (au jo)) CP fun a2 w2 sS=> ?_)
 rw [O0]
 refine wp_seq (wp_region ?_)
 rw [YJ,show List.range 4=[0,1,2,3] from rfl]
 refine ff aem (gf cB aeq sS (st':=(SH l M).put 8 (.d (.ag false 7 l))) rfl fun a3 w3 hI3=> ?_)
 refine ff aen (gf cB aer hI3 (st':=((SH l M).put 8 (.d (.ag false 7 l))).put 9 (.func 85 [.ptr 5 1 0 0])) rfl fun a4 w4 hI4=> ?_)
 refine dO aeo YL ?_
 obtain ⟨ρ,S,hI⟩:=hI4
 have e8:aE w4 S ρ (.d (.ag false 7 l)) (a4.tmps.getD 8 undef):=hI.env 8
 have e9:aE w4 S ρ (.func 85 [.ptr 5 1 0 0]) (a4.tmps.getD 9 undef):=hI.env 9
 simp only [aE] at e8
 simp only [aE,aS] at e9
 obtain ⟨us,e9,_,_,rfl,rfl,rfl⟩:=e9
 have s5:=hI.aT 5 (.mix 49 1 [[.ah 7 1 0 M.length]]) rfl
 have s7:=hI.aT 7 (.aC 3 1 M) rfl
 have YR:(ρ 5).1≠(ρ 7).1:=fun h=>by
  have :=hI.apart 5 7 _ _ rfl rfl h
  omega
 refine wg (X:=XH (ρ 5).1 M l) (G0:=fun k=>k=(ρ 5).1∨k=(ρ 7).1) (g:=85) (caps:= #[c7 (ρ 5).1]) (Ko hM hz) hz hl hI YM (by omega) e8 (EY rfl ?_) ?_ (Nat.zero_le _) ?_ ?_ fun a' w' e7=>HD e7 fun v w' S' hp=>⟨v,rfl,S',hp⟩
 ·show a4.tmps.getD 9 undef=_
  rw [e9]
 ·refine ⟨fun s=>if s=1001 then ρ 5 else if s=1002 then ρ 7 else (0,0),rfl,YR,fun k=>Iff.rfl,HC s5 rfl rfl,O2 (zP hM s7) rfl,fun n hn=>by
   show (if n=1001 then ρ 5 else if n=1002 then ρ 7 else (0,0))=(0,0)
   rw [if_neg (by omega),if_neg (by omega)]⟩
 ·rintro k hk (rfl | rfl)
  ·exact s5.lt.1 hk
  ·exact s7.lt.1 hk
 ·rintro b p hs (rfl | rfl)
  ·exact s5.lt.2.2 p hs
  ·exact s7.lt.2.2 p hs
def pv (e:aw) :DV:= .agg [.int .i64 (aa e 0).ak,.int .i64 (aa e 1).ak,.int .i64 (aa e 2).ak,.int .i64 (aa e 3).ak,.int .i64 (aa e 4).ak,.int .i64 (aa e 5).ak,.int .i64 (aa e 6).ak]
def Mf (t:Int) (e:aw) :Bool:=bif decide (t≥(aa e 5).ak) then decide (t≤(aa e 6).ak) else false
def hiB (p e:aw) :Bool:=bif (aa e 1).ak==(aa p 1).ak then (aa e 4).ak !=3 else false
def bW (g:FuncId) (t:Int) (e:aw) :Bool:=cond (Nat.beq g 86) (Mf t e) (ef e==t)
def zI:aR where
 D ds:= ∃x g t,ds=[x,.func g [.aI [.int .i64 t] 0]]∧(g=86∨g=143)∧Sl 7 x∧(ar x).length≤1000∧ ∀e∈ar x,aq z7 e=true
 val ds:=match ds with | [x,.func g [.aI [.int _ t] _]]=>some (.ag false 7 ((ar x).filter (bW g t))) | _=>none
def HE:aR where
 D ds:= ∃e a0 a1 a2 a3 a4 a5 a6,ds=[pv e,.aI (p7 a0 a1 a2 a3 a4 a5 a6) 0]
 val ds:=match ds with | [.agg e,.aI p _]=>some (.bool (hiB p e)) | _=>none
noncomputable def spA:FuncId→Option aR:=bL 84 zI aV
noncomputable def IF:FuncId→Option aR:=bL 268 HE aV
def dN (φ:aw→Bool) :aj→Nat→Int
 | [],_=> -1
 | e::l,i=>cond (φ e) (i:Int) (dN φ l (i+1))
def IG (a0 a1 a2 a3 a4 a5 a6:Int) :DV:= .func 268 [.aI (p7 a0 a1 a2 a3 a4 a5 a6) 0]
def rP (c:DV) (e:aw) :Bool:=match c with | .func _ [.aI p _]=>hiB p e | _=>false
def aex:bK:=fun st=>match st.env 0,st.env 1 with
 | .d (.ag _ _ l),.d c=> .br (l.any (rP c)) (.one .ret (St.of [(4,.d (.int .i64 (dN (rP c) l 0)))] [])) (.one (.ex 0) (St.of [] []))
 | _,_=> .no
def lE (k:Nat) :Option bK:=if k=960 then some aex else none
def tT (l:aj) (c:DV) (i:Int) :St:=St.of [(0,.d (.ag false 7 l)),(1,.d c),(7,.d (.int .i64 (l.length:Int))),(8,.d (.int .i64 i))] []
theorem t29 (n:Nat) (e:aw) (t:Int) :FK tab aV bu 20 (n+12) 86 [pv e,.aI [.int .i64 t] 0]=
  (some (DV.bool (bif decide (t≥(aa e 5).ak) then decide (t≤(aa e 6).ak) else false))):=by kernel_rfl
theorem t31 (n:Nat) (e:aw) (t:Int) :FK tab aV bu 20 (n+12) 143 [pv e,.aI [.int .i64 t] 0]=
  (some (DV.bool ((aa e 1).ak==t))):=by kernel_rfl
theorem t24 (n:Nat) (e:aw) (a0 a1 a2 a3 a4 a5 a6:Int) :FK tab aV bu 20 (n+12) 268 [pv e,.aI (p7 a0 a1 a2 a3 a4 a5 a6) 0]=
  (some (DV.bool (bif (aa e 1).ak==a1 then (aa e 4).ak !=(3:Int) else false))):=by kernel_rfl
theorem t17 (n:Nat) (l:aj) (t:Int) :FK tab spA bu 20 (n+12) 43 [.ag false 7 l,.int .i64 t]=
  (aP (zI.D [DV.ag false 7 l,DV.func (86:FuncId) [DV.aI [DV.int .i64 t] (0:Nat)]])
 (some (DV.ag false 7 (List.filter (bW (86:FuncId) t) l)))):=by kernel_rfl
theorem t18 (n:Nat) (l:aj) (t:Int) :FK tab spA bu 20 (n+12) 82 [.ag false 7 l,.int .i64 t]=
  (aP (zI.D [DV.ag false 7 l,DV.func (143:FuncId) [DV.aI [DV.int .i64 t] (0:Nat)]])
 (some (DV.ag false 7 (List.filter (bW (143:FuncId) t) l)))):=by kernel_rfl
theorem YS (L n:Nat) (l:aj) (a0 a1 a2 a3 a4 a5 a6:Int) (i:Nat) (k:aX) :LB tab IF lE L (n+4) h960 eE (tT l (IG a0 a1 a2 a3 a4 a5 a6) i) k=
 cond (decide ((i:Int) < (l.length:Int))) (aA l[((i:Nat) :Int).toNat]? fun e=>cond (aq z7 e) (aP (HE.D [pv e,.aI (p7 a0 a1 a2 a3 a4 a5 a6) 0]) (cond (rP (IG a0 a1 a2 a3 a4 a5 a6) e) (k .ret (St.of [(4,.d (.int .i64 i))] [])) (k .bC (tT l (IG a0 a1 a2 a3 a4 a5 a6) (IntKind.i64.wrap ((i:Int)+1)))))) none) (k (.ex 0) (St.of [] [])):=by kernel_rfl
theorem t25 (n:Nat) (l:aj) (g:FuncId) (caps:aw) :FK tab IF lE 20 (n+12) 51 [.ag false 7 l,.func g caps]=
 cond (l.any (rP (.func g caps))) (aP (aG (LB tab IF lE 20 (n+11) h960 eE) (tT l (.func g caps) 0) (.ret,St.of [(4,.d (.int .i64 (dN (rP (.func g caps)) l 0)))] [])) (some (.bool (decide (dN (rP (.func g caps)) l 0≥(0:Int))))))
  (aP (aG (LB tab IF lE 20 (n+11) h960 eE) (tT l (.func g caps) 0) (.ex 0,St.of [] [])) (some (.bool false))):=by kernel_rfl
theorem aey (e:aw) (t:Int) :bI Tryz.prog 86 [pv e,.aI [.int .i64 t] 0] (.bool (Mf t e)):=aL (lsp:=bu) a7 aY 20 (0+12) (t29 0 e t)
theorem aez (e:aw) (t:Int) :bI Tryz.prog 143 [pv e,.aI [.int .i64 t] 0] (.bool (ef e==t)):=aL (lsp:=bu) a7 aY 20 (0+12) (t31 0 e t)
theorem aeA:HE.ok Tryz.prog 268:=fun ds r hD hv=>by
 obtain ⟨e,a0,a1,a2,a3,a4,a5,a6,rfl⟩:=hD
 cases hv
 exact aL (lsp:=bu) a7 aY 20 (0+12) (t24 0 e a0 a1 a2 a3 a4 a5 a6)
theorem O3: ∀f s,IF f=some s→s.ok Tryz.prog f:=aM aeA aY
theorem j6 {φ:aw→Bool} : ∀{l:aj} {i:Nat},l.any φ=true→0≤dN φ l i
 | [],_,h=>by simp at h
 | e::l,i,h=>by
  unfold dN
  cases he:φ e with
  | true=>exact Int.natCast_nonneg i
  | false=>
   rw [cond_false]
   refine j6 ?_
   rw [List.any_cons,he,Bool.false_or] at h
   exact h
theorem Kt {L n:Nat} {l:aj} {c:DV} (hl:l.length≤1000000)
  (hs: ∀(i:Nat) (hi:i < l.length) (k:aX),LB tab IF lE L (n+4) h960 eE (tT l c i) k=cond (rP c l[i]) (k .ret (St.of [(4,.d (.int .i64 i))] [])) (k .bC (tT l c ((i+1:Nat) :Int))))
  (he: ∀k:aX,LB tab IF lE L (n+4) h960 eE (tT l c (l.length:Nat)) k=k (.ex 0) (St.of [] [])) :
  aG (LB tab IF lE L (n+4) h960 eE) (tT l c 0) (cond (l.any (rP c)) (.ret,St.of [(4,.d (.int .i64 (dN (rP c) l 0)))] []) (.ex 0,St.of [] [])):=by
 have hR: ∀i,i≤l.length→aG (LB tab IF lE L (n+4) h960 eE) (tT l c (i:Nat)) (cond ((l.drop i).any (rP c)) (.ret,St.of [(4,.d (.int .i64 (dN (rP c) (l.drop i) i)))] []) (.ex 0,St.of [] [])):=by
  refine eF (fun i:Nat=>tT l c (i:Nat)) (fun i=>cond ((l.drop i).any (rP c)) (.ret,St.of [(4,.d (.int .i64 (dN (rP c) (l.drop i) i)))] []) (.ex 0,St.of [] [])) l.length (fun i hi=> ?_) ?_
  ·have hx:dN (rP c) (l[i]::l.drop (i+1)) i=cond (rP c l[i]) (i:Int) (dN (rP c) (l.drop (i+1)) (i+1)):=rfl
   rw [List.drop_eq_getElem_cons hi,List.any_cons,hx]
   cases h:rP c l[i] with
   | true=>
    right
    rw [Bool.true_or,cond_true,cond_true]
    exact ⟨by simp,fun k=>by rw [hs i hi,h,cond_true]⟩
   | false=>
    left
    rw [Bool.false_or,cond_false]
    exact ⟨fun k=>by rw [hs i hi,h,cond_false],rfl⟩
  ·rw [List.drop_length]
   exact ⟨by simp,fun k=>he k⟩
 exact hR 0 (Nat.zero_le _)
def rO:aR where
 D ds:= ∃x a0 a1 a2 a3 a4 a5 a6,ds=[x,IG a0 a1 a2 a3 a4 a5 a6]∧Sl 7 x∧(ar x).length≤1000000∧ ∀e∈ar x,aq z7 e=true
 val ds:=match ds with | [x,c]=>some (.bool ((ar x).any (rP c))) | _=>none
theorem YT:rO.ok Tryz.prog 51:=fun ds r hD hv=>by
 obtain ⟨x,a0,a1,a2,a3,a4,a5,a6,rfl,hx,hl,hz⟩:=hD
 cases hv
 refine bI.kU hx ?_
 refine aL (lsp:=lE) a7 O3 20 (0+12) ((t25 0 (ar x) 268 [.aI (p7 a0 a1 a2 a3 a4 a5 a6) 0]).trans ?_)
 have h:aG (LB tab IF lE 20 (0+7+4) h960 eE) (tT (ar x) (IG a0 a1 a2 a3 a4 a5 a6) 0) (cond ((ar x).any (rP (IG a0 a1 a2 a3 a4 a5 a6))) (.ret,St.of [(4,.d (.int .i64 (dN (rP (IG a0 a1 a2 a3 a4 a5 a6)) (ar x) 0)))] []) (.ex 0,St.of [] [])):=by
  refine Kt hl (fun i hi k=> ?_) fun k=> ?_
  ·rw [YS,cr hi,cond_true,gZ hi,hz _ (List.getElem_mem hi),cond_true,a8 (by omega)]
   exact au ⟨_,_,_,_,_,_,_,_,rfl⟩
  ·rw [YS,aO,cond_false]
 show cond ((ar x).any (rP (IG a0 a1 a2 a3 a4 a5 a6))) _ _=_
 cases ha:(ar x).any (rP (IG a0 a1 a2 a3 a4 a5 a6)) with
 | true=>
  rw [ha] at h
  rw [cond_true]
  refine (au h).trans ?_
  rw [show dN (rP (.func 268 [.aI (p7 a0 a1 a2 a3 a4 a5 a6) 0])) (ar x) 0=dN (rP (IG a0 a1 a2 a3 a4 a5 a6)) (ar x) 0 from rfl,decide_eq_true (j6 ha)]
 | false=>
  rw [ha] at h
  rw [cond_false]
  exact au h
def XP (w:World) :Hid where
 B:=w.heap.size
 H:=fun _ G w'=>(∀k,¬ G k)∧(∀k,k < w.heap.size→w'.heap[k]? =w.heap[k]?)∧w.heap.size≤w'.heap.size
 lt i G w h k hk:=absurd hk (h.1 k)
 EL i G w1 w2 h hb hs:=⟨h.1,fun k hk=>(hb k (.inl hk)).trans (h.2.1 k hk),Nat.le_trans h.2.2 hs⟩
theorem YU (w:World) (S:Nat→Nat→Prop) (e:aw) :aW w S (pv e) (gk e):=by
 simp only [aW,pv,cg]
 exact ⟨[.int .i64 _,.int .i64 _,.int .i64 _,.int .i64 _,.int .i64 _,.int .i64 _,.int .i64 _],rfl,_,_,rfl,rfl,_,_,rfl,rfl,_,_,rfl,rfl,_,_,rfl,rfl,_,_,rfl,rfl,_,_,rfl,rfl,_,_,rfl,rfl,rfl⟩
theorem EZ (O:aj) :mP (py O):=by
 unfold py
 cases O.isEmpty
 ·exact rm _ _ _
 ·exact rl
theorem iC.whole {w:World} {G0:Nat→Prop} (hG: ∀k,¬ G0 k) {S0 S':Nat→Nat→Prop} {r:DV} (hm:mP r) {v:Value} {w':World} (hp:iC (qv w G0) S0 r v w' S') :iC (dw.all w) S0 r v w' S':=
 ⟨hp.below.mono fun k hk=>⟨hk,hG k⟩,hp.up,fun b p h=>(hp.new b p h).imp id fun h hb=>h ⟨hb,hG b⟩,hp.live,hm _ _ _ _ _ (fun k hk=>⟨hk,hG k⟩) hp.res⟩
theorem Ku {g:FuncId} {caps:aw} {φ:aw→Bool} {l:aj} (hφ: ∀e,bI Tryz.prog g (pv e::caps) (.bool (φ e))) (hz: ∀e∈l,aq z7 e=true) (hl:l.length≤1000) :
  bI Tryz.prog 84 [.ag false 7 l,.func g caps] (py (bH l.length (fun i=>φ (l[i]?.getD [])) (rowP l))):=by
 intro w vs S0 o ha hS
 obtain ⟨hd,rfl⟩:=(dy (ds:=[.ag false 7 l,.func g caps]) rfl).1 ha
 simp only [cg] at hd
 obtain ⟨vl,_,rfl,Fs,vg,_,rfl,hg,rfl⟩:=hd
 simp only [aW] at hg
 obtain ⟨cs,rfl,A5⟩:=hg
 have gn:kY (XP w) g cs.toArray l (fun i=>φ (l[i]?.getD [])):=fun i hi w1 G hH=>by
  obtain ⟨h1,h2,h3⟩:=hH
  have hk:Kept w w1 S0 S0:=⟨fun _ _ h=>h,fun b p Fo u hu=>by
   rw [World.cell?] at hu ⊢
   rw [h2 b (hS b p Fo)]
   exact hu⟩
  have hr:cg w1 S0 (pv l[i]::caps) (gk l[i]::cs):=by
   simp only [cg]
   exact ⟨_,_,rfl,YU _ _ _,cg.kept hk _ _ A5⟩
  have :=(hφ l[i]) w1 (gk l[i]::cs) S0 _ hr.args fun b p h=>Nat.lt_of_lt_of_le (hS b p h) h3
  rw [show (#[gk l[i]]++cs.toArray:Array Value)=(gk l[i]::cs).toArray from by simp]
  refine this.mono fun v w' he=> ?_
  obtain ⟨S',hp⟩:=he
  refine ⟨?_,fun _=>False,⟨fun k h=>h,fun k hk=>(hp.below.block k (Nat.lt_of_lt_of_le hk h3)).trans (h2 k hk),Nat.le_trans h3 hp.below.size⟩,hp.below.mono fun k hk=>hk.1,fun k h=>h.elim⟩
  have :=hp.res
  simp only [jv,aW] at this
  rw [this]
  show Value.bool (φ l[i])=Value.bool (φ (l[i]?.getD []))
  rw [List.getElem?_eq_getElem hi]
  rfl
 obtain ⟨fn,hU,gC,jX⟩:=Dp
 refine .inl ⟨⟨fn,hU,gC,jX⟩,(Md (X:=XP w) (G0:=fun _=>False) gn (fun b p h=>⟨hS b p h,fun h=>h⟩) hz hl ⟨fun k h=>h,fun k _=>rfl,Nat.le_refl _⟩ (Nat.le_refl _) Fs).mono fun e w' he=> ?_⟩
 obtain ⟨v,S',rfl,hp⟩:=he
 exact ⟨v,rfl,S',iC.whole (fun k h=>h) (EZ _) hp⟩
theorem jE {l:aj} (hz: ∀e∈l,aq z7 e=true) (φ:aw→Bool) :bH l.length (fun i=>φ (l[i]?.getD [])) (rowP l)=l.filter φ:=by
 have h: ∀n,n≤l.length→bH n (fun i=>φ (l[i]?.getD [])) (rowP l)=(l.take n).filter φ:=by
  intro n
  induction n with
  | zero=>intro _; rfl
  | succ n ih=>
   intro hn
   have dZ:n < l.length:=by omega
   rw [eD,ih (by omega),List.take_add_one,List.filter_append,List.getElem?_eq_getElem dZ,eh dZ]
   have hp:EO l[n]=l[n]:=by
    obtain ⟨a0,a1,a2,a3,a4,a5,a6,he⟩:=fB (hz _ (List.getElem_mem dZ))
    rw [he]
    rfl
   rw [hp]
   simp only [Option.getD_some,Option.toList_some]
   cases hf:φ l[n]<;>simp [hf]
 rw [h _ (Nat.le_refl _),List.take_length]
theorem bI.aeB {f:FuncId} {ds:aw} {O:aj} (h:bI Tryz.prog f ds (py O)) :bI Tryz.prog f ds (.ag false 7 O):=by
 unfold py at h
 cases O with
 | nil=>exact bI.res h (fj.nil _ _) rfl
 | cons a t=>exact bI.res h (fj.sl _ _ _) rfl
theorem O7:zI.ok Tryz.prog 84:=fun ds r hD hv=>by
 obtain ⟨x,g,t,rfl,hg,hx,hl,hz⟩:=hD
 cases hv
 refine bI.kU hx ?_
 have h:=Ku (g:=g) (caps:=[.aI [.int .i64 t] 0]) (φ:=bW g t) (l:=ar x) (fun e=>by
  rcases hg with rfl | rfl
  ·exact aey e t
  ·exact aez e t) hz hl
 rw [jE hz] at h
 exact bI.aeB h
theorem HF: ∀f s,spA f=some s→s.ok Tryz.prog f:=aM O7 aY
def jk (g:FuncId) :aR where
 D ds:= ∃x t,ds=[x,.int .i64 t]∧Sl 7 x∧(ar x).length≤1000∧ ∀e∈ar x,aq z7 e=true
 val ds:=match ds with | [x,.int _ t]=>some (.ag false 7 ((ar x).filter (bW g t))) | _=>none
theorem HG:(jk 86).ok Tryz.prog 43:=fun ds r hD hv=>by
 obtain ⟨x,t,rfl,hx,hl,hz⟩:=hD
 cases hv
 refine bI.kU hx ?_
 exact aL (lsp:=bu) a7 HF 20 (0+12) ((t17 0 (ar x) t).trans (au ⟨_,_,_,rfl,.inl rfl,Sl.ag _ _ _,hl,hz⟩))
theorem aeC:(jk 143).ok Tryz.prog 82:=fun ds r hD hv=>by
 obtain ⟨x,t,rfl,hx,hl,hz⟩:=hD
 cases hv
 refine bI.kU hx ?_
 exact aL (lsp:=bu) a7 HF 20 (0+12) ((t18 0 (ar x) t).trans (au ⟨_,_,_,rfl,.inr rfl,Sl.ag _ _ _,hl,hz⟩))
noncomputable def YV:FuncId→Option aR:=bL 51 rO aV
noncomputable abbrev YW:FuncId→aw→aH:=eZ tab YV bu 20 (0+4)
noncomputable def uP:Code:=Tryz.f267.body.getD .skip
def O8:AC:=Oo.body.erase
def q0:Hint:=⟨0,[2,3],[3],[],[]⟩
def q1:Hint:=⟨0,[2,3,5],[3],[],[]⟩
def q3:Hint:=⟨0,[2,3,5,6],[3],[],[]⟩
def q4:Hint:=⟨0,[4],[],[],[]⟩
abbrev rb (r:aj) :AV:= .d (.aI [.ag false 7 r] 0)
def Q0 (e:aw) (r:aj) :St:=St.of [(0,.d (.agg e)),(2,rb r)] []
def Q1 (e:aw) (r:aj) :St:=St.of [(2,rb r),(3,.ptr 3 7 0 0)] [(3,some (.aC 60 7 [e]))]
def Q2 (e:aw) (r:aj) (b:Bool) :St:=St.of [(2,rb r),(3,.ptr 3 7 0 0),(5,.d (.bool b))] [(3,some (.aC 60 7 [e]))]
def Q3 (e:aw) (r:aj) (b:Bool) :St:=St.of [(2,rb r),(3,.ptr 3 7 0 0),(5,.d (.bool b)),(6,.func 268 [.ptr 3 7 0 0])] [(3,some (.aC 60 7 [e]))]
def Q4 (b:Bool) :St:=St.of [(4,.d (.bool b))] []
theorem O':Tryz.f267.body=some uP:=by kernel_rfl
theorem func23:Tryz.prog.funcs[267]? =some Tryz.f267:=by kernel_rfl
theorem Pb:(Tryz.f267.name== "runtime.NumGoroutine")=false:=by kernel_rfl
theorem Pc:Tryz.f267.body.isNone=false:=by kernel_rfl
theorem ntmps23:Tryz.f267.ntmps=28:=by kernel_rfl
theorem YX:bm (oE Tryz.prog) Tryz.f267.results.toList=some [.t 4]:=by kernel_rfl
theorem Kv:uP= .seq (kA uP) (.seq (kA (kB uP)) (.seq (kA (kB (kB uP))) (.seq (kA (kB (kB (kB uP)))) (.seq (kA (kB (kB (kB (kB uP))))) .ret)))):=by kernel_rfl
noncomputable def idG (c:Code) :Nat:=match c with | .region id _ _=>id | _=>0
noncomputable def tU:Array Oper:=rJ (kA (kB uP))
noncomputable def xE:Array Oper:=rJ (kA (kB (kB uP)))
theorem Pd:kA (kB uP)= .region (idG (kA (kB uP))) tU false:=by kernel_rfl
theorem Pe:kA (kB (kB uP))= .region (idG (kA (kB (kB uP)))) xE false:=by kernel_rfl
theorem YY:tU.size=5:=by kernel_rfl
theorem YZ:xE.size=4:=by kernel_rfl
noncomputable def oM (k:Nat) :Oper:=match tU[k]? with | some o=>o | none=>QX
noncomputable def oU (k:Nat) :Oper:=match xE[k]? with | some o=>o | none=>QX
theorem aeD:tU[0]? =some (oM 0):=by kernel_rfl
theorem aeE:tU[1]? =some (oM 1):=by kernel_rfl
theorem aeF:tU[2]? =some (oM 2):=by kernel_rfl
theorem aeG:tU[3]? =some (oM 3):=by kernel_rfl
theorem aeH:tU[4]? =some (oM 4):=by kernel_rfl
theorem aeI:xE[0]? =some (oU 0):=by kernel_rfl
theorem aeJ:xE[1]? =some (oU 1):=by kernel_rfl
theorem aeK:xE[2]? =some (oU 2):=by kernel_rfl
theorem aeL:xE[3]? =some (oU 3):=by kernel_rfl
theorem Y1:(oM 0).guard=none:=by kernel_rfl
theorem Y3:(oM 3).guard=none:=by kernel_rfl
theorem Y4:(oU 0).guard=none:=by kernel_rfl
theorem Y5:(oU 3).guard=none:=by kernel_rfl
theorem aeM:(oM 0).op= .load 304 (.tmp 1):=by kernel_rfl
theorem aeN:(oM 3).op= .lookup 304 (.tmp 7) (.tmp 9) false:=by kernel_rfl
theorem aeO:(oU 0).op= .load 304 (.tmp 1):=by kernel_rfl
theorem aeP:(oU 3).op= .mapUpdate 304 (.tmp 11) (.tmp 13) (.const (.bool true)):=by kernel_rfl
theorem Y6:(oM 0).dst=some 7:=by kernel_rfl
theorem Y7:(oM 3).dst=some 10:=by kernel_rfl
theorem Y8:(oU 0).dst=some 11:=by kernel_rfl
theorem Y9:(oU 3).dst=none:=by kernel_rfl
def m8:aN:=⟨some 8,none,[],true,.aD 1 (.t 3)⟩
def m9:aN:=⟨some 9,none,[],true,.load false 1 (.t 8) [.int .i64 0]⟩
def m5:aN:=⟨some 5,none,[],true,.mv (.t 10)⟩
def u12:aN:=⟨some 12,none,[],true,.aD 1 (.t 3)⟩
def u13:aN:=⟨some 13,none,[],true,.load false 1 (.t 12) [.int .i64 0]⟩
theorem aeQ:ix Tryz.prog [] 28 tU (oM 1)=some m8:=by kernel_rfl
theorem aeR:ix Tryz.prog [] 28 tU (oM 2)=some m9:=by kernel_rfl
theorem aeS:ix Tryz.prog [] 28 tU (oM 4)=some m5:=by kernel_rfl
theorem aeT:ix Tryz.prog [] 28 xE (oU 1)=some u12:=by kernel_rfl
theorem aeU:ix Tryz.prog [] 28 xE (oU 2)=some u13:=by kernel_rfl
theorem Pf:dr [1] (oM 0)=true:=by kernel_rfl
theorem Pg:dr [7,1] (oM 1)=true:=by kernel_rfl
theorem Ph:dr [7,1] (oM 2)=true:=by kernel_rfl
theorem Pj:dr [7,1] (oM 3)=true:=by kernel_rfl
theorem Pk:dr [7,1] (oM 4)=true:=by kernel_rfl
theorem Pl:dr [1] (oU 0)=true:=by kernel_rfl
theorem Pm:dr [11,1] (oU 1)=true:=by kernel_rfl
theorem Pn:dr [11,1] (oU 2)=true:=by kernel_rfl
theorem cM0:bY Tryz.prog [] 28 (kA uP)=some (xA O8).erase:=by kernel_rfl
theorem cM3:bY Tryz.prog [] 28 (kA (kB (kB (kB uP))))=some (xA (xB (xB (xB O8)))).erase:=by kernel_rfl
theorem cM4:bY Tryz.prog [] 28 (kA (kB (kB (kB (kB uP)))))=some (xA (xB (xB (xB (xB O8))))).erase:=by kernel_rfl
theorem aeV:df [1] (kA uP)=true:=by kernel_rfl
theorem aeW:df [1] (kA (kB (kB (kB uP))))=true:=by kernel_rfl
theorem aeX:df [1] (kA (kB (kB (kB (kB uP)))))=true:=by kernel_rfl
theorem pw0 (L n:Nat) (a0 a1 a2 a3 a4 a5 a6:Int) (r:aj) (k:aX) :LB tab YV bu L (n+4) q0 (xA O8) (Q0 (p7 a0 a1 a2 a3 a4 a5 a6) r) k=k .bC (Q1 (p7 a0 a1 a2 a3 a4 a5 a6) r):=by kernel_rfl
theorem pw3 (L n:Nat) (a0 a1 a2 a3 a4 a5 a6:Int) (r:aj) (b:Bool) (k:aX) :LB tab YV bu L (n+4) q3 (xA (xB (xB (xB O8)))) (Q2 (p7 a0 a1 a2 a3 a4 a5 a6) r b) k=k .bC (Q3 (p7 a0 a1 a2 a3 a4 a5 a6) r b):=by kernel_rfl
theorem aeY (L n:Nat) (a0 a1 a2 a3 a4 a5 a6:Int) (r:aj) (b:Bool) (k:aX) :LB tab YV bu L (n+4) q4 (xA (xB (xB (xB (xB O8))))) (Q3 (p7 a0 a1 a2 a3 a4 a5 a6) r b) k=
  (bif !b then bif a4==(3:Int) then k Ex.bC (St.of [(4,AV.d (DV.bool true))] []) else k Ex.bC (St.of [(4,AV.d (DV.bool true))] [])
 else
 bif a4==(3:Int) then
 aP
 (rO.D
 [DV.ag false 7 r,
 DV.func (268:FuncId)
 [DV.aI
 [DV.int .i64 a0,DV.int .i64 a1,DV.int .i64 a2,DV.int .i64 a3,DV.int .i64 a4,DV.int .i64 a5,DV.int .i64 a6]
 (0:Nat)]])
 (k Ex.bC (St.of [(4,AV.d (DV.bool !r.any (rP (DV.func (268:FuncId) [DV.aI (p7 a0 a1 a2 a3 a4 a5 a6) (0:Nat)].reverse))))] []))
 else k Ex.bC (St.of [(4,AV.d (DV.bool false))] [])):=by kernel_rfl
def tV (w:World) (mb:Nat) (T:Int→Prop) :Prop:= ∃es clock,w.heap[mb]? =some (.map es clock)∧(∀x∈es.toList,(∃n,x.key= .int .i64 n∧T n)∧x.val= .bool true)∧ ∀n,T n→ ∃x∈es.toList,x.key= .int .i64 n
theorem Ds:Tryz.prog.underlying 304=some (.map 3 4):=by kernel_rfl
theorem zQ:Tryz.prog.underlying 3=some (.int .i64):=by kernel_rfl
theorem Y' (w:World) :(zeroValue 4).run Tryz.prog w= .ok (.bool false) w:=by kernel_rfl
theorem zR {es:Array MapEntry} {T:Int→Prop} (h: ∀x∈es.toList,(∃n,x.key= .int .i64 n∧T n)∧x.val= .bool true) : ∀x∈es.toList,MapKept.IsKey (.int .i64) x.key:=fun x hx=>by
 obtain ⟨⟨m,hm,_⟩,_⟩:=h x hx
 rw [hm]
 rfl
theorem HI {w:World} {mb:Nat} {T:Int→Prop} {n:Int} (h:tV w mb T) {b:Bool} (hb:b=true↔T n) :(Instr.lookup 304 (.map (some mb)) (.int .i64 n) false).run Tryz.prog w= .ok (.bool b) w:=by
 obtain ⟨es,clock,h1,h2,h3⟩:=h
 have hk:MapKept.IsKey (.int .i64) (.int .i64 n):=rfl
 rcases MapKept.findNow_spec hk es.toList 0 (zR h2) with ⟨f1,f2⟩ | ⟨j,e,f1,f2,f3⟩
 ·have hT: ¬ T n:=fun ht=>by
   obtain ⟨x,hx,QY⟩:=h3 n ht
   exact f2 x hx QY
  have :b=false:=by
   cases b
   ·rfl
   ·exact absurd (hb.1 rfl) hT
  subst this
  simp [Instr.lookup,run_underlying Ds,MapKept.run_getObj_map h1,MapKept.run_checkKey zQ hk,MapKept.run_findKey zQ f1,Y',Result.andThen]
 ·have hm:=List.mem_of_getElem? f2
  obtain ⟨⟨m,Iy,QZ⟩,hv⟩:=h2 e hm
  rw [Iy] at f3
  simp only [Value.int.injEq,true_and] at f3
  subst f3
  have :b=true:=hb.2 QZ
  subst this
  simp [Instr.lookup,run_underlying Ds,MapKept.run_getObj_map h1,MapKept.run_checkKey zQ hk,MapKept.run_findKey zQ f1,hv,Result.andThen]
theorem Kw {w:World} {mb:Nat} {T:Int→Prop} (n:Int) (h:tV w mb T) : ∃o,(Instr.mapUpdate 304 (.map (some mb)) (.int .i64 n) (.bool true)).run Tryz.prog w= .ok () {w with heap:=w.heap.setIfInBounds mb o}∧tV {w with heap:=w.heap.setIfInBounds mb o} mb (fun k=>T k∨k=n):=by
 obtain ⟨es,clock,h1,h2,h3⟩:=h
 have hk:MapKept.IsKey (.int .i64) (.int .i64 n):=rfl
 rcases MapKept.findNow_spec hk es.toList 0 (zR h2) with ⟨f1,f2⟩ | ⟨j,e,f1,f2,f3⟩
 ·refine ⟨_,by simp [Instr.mapUpdate,run_underlying Ds,MapKept.run_getObj_map h1,MapKept.run_checkKey zQ hk,MapKept.run_findKey zQ f1,MapKept.run_setObj_map _ h1,Result.andThen]; rfl,_,_,(MapKept.heap_set h1).1,fun x hx=> ?_,fun k Iz=> ?_⟩
  ·simp only [Array.toList_push,List.mem_append,List.mem_singleton] at hx
   rcases hx with hx | rfl
   ·obtain ⟨⟨m,Iy,QZ⟩,hv⟩:=h2 x hx
    exact ⟨⟨m,Iy,.inl QZ⟩,hv⟩
   ·exact ⟨⟨n,rfl,.inr rfl⟩,rfl⟩
  ·simp only [Array.toList_push,List.mem_append,List.mem_singleton]
   rcases Iz with Iz | rfl
   ·obtain ⟨x,hx,QY⟩:=h3 k Iz
    exact ⟨x,.inl hx,QY⟩
   ·exact ⟨_,.inr rfl,rfl⟩
 ·have hj:es[j]? =some e:=by simpa using f2
  have hm:=List.mem_of_getElem? f2
  obtain ⟨⟨m,Iy,QZ⟩,hv⟩:=h2 e hm
  have hmn:m=n:=by
   rw [Iy] at f3
   simpa using f3
  subst hmn
  refine ⟨_,by simp [Instr.mapUpdate,run_underlying Ds,MapKept.run_getObj_map h1,MapKept.run_checkKey zQ hk,MapKept.run_findKey zQ f1,hj,f3,MapKept.run_keyThatStays hk,MapKept.run_setObj_map _ h1,Result.andThen]; rfl,_,_,(MapKept.heap_set h1).1,fun x hx=> ?_,fun k Iz=> ?_⟩
  ·rw [Array.mem_toList_iff,Array.mem_iff_getElem?] at hx
   obtain ⟨i,hi⟩:=hx
   rw [Array.getElem?_modify] at hi
   split at hi
   ·rename_i Za
    subst Za
    rw [hj] at hi
    simp only [Option.map_some,Option.some.injEq] at hi
    subst hi
    exact ⟨⟨m,rfl,.inl QZ⟩,rfl⟩
   ·obtain ⟨⟨m',aeZ,ae0⟩,CS⟩:=h2 x (by rw [Array.mem_toList_iff,Array.mem_iff_getElem?]; exact ⟨i,hi⟩)
    exact ⟨⟨m',aeZ,.inl ae0⟩,CS⟩
  ·have ae1:T k:=by
    rcases Iz with h | rfl
    ·exact h
    ·exact QZ
   obtain ⟨x,hx,QY⟩:=h3 k ae1
   rw [Array.mem_toList_iff,Array.mem_iff_getElem?] at hx
   obtain ⟨i,hi⟩:=hx
   by_cases Za:j=i
   ·subst Za
    rw [hj] at hi
    cases hi
    refine ⟨_,by rw [Array.mem_toList_iff,Array.mem_iff_getElem?]; exact ⟨j,by rw [Array.getElem?_modify,if_pos rfl,hj]; rfl⟩,?_⟩
    show Value.int .i64 m=_
    rw [← QY,Iy]
   ·exact ⟨x,by rw [Array.mem_toList_iff,Array.mem_iff_getElem?]; exact ⟨i,by rw [Array.getElem?_modify,if_neg Za]; exact hi⟩,QY⟩
def seen (r:aj) (i:Nat) (f:Int) :Prop:= ∃e∈r.take i,ef e=f
def gH (r:aj) (i:Nat) (f:Int) :Bool:=(r.take i).any fun e=>ef e==f
theorem E0 (r:aj) (i:Nat) (f:Int) :gH r i f=true↔seen r i f:=by
 unfold gH seen
 simp
theorem E1 (r:aj) {i:Nat} (hi:i < r.length) :(fun k=>seen r i k∨k=ef r[i])=seen r (i+1):=by
 funext k
 unfold seen
 refine propext ⟨fun h=> ?_,fun h=> ?_⟩
 ·rw [List.take_add_one,List.getElem?_eq_getElem hi]
  rcases h with ⟨e,he,hf⟩ | rfl
  ·exact ⟨e,List.mem_append.2 (.inl he),hf⟩
  ·exact ⟨r[i],List.mem_append.2 (.inr (List.mem_singleton.2 rfl)),rfl⟩
 ·obtain ⟨e,he,hf⟩:=h
  rw [List.take_add_one,List.getElem?_eq_getElem hi] at he
  simp only [Option.toList_some,List.mem_append,List.mem_singleton] at he
  rcases he with he | rfl
  ·exact .inl ⟨e,he,hf⟩
  ·exact .inr hf.symm
def Zb (r:aj) (e:aw) :Bool:=(aa e 4).ak==3&& !r.any (hiB e)
def E2 (r:aj) (i:Nat) :Bool:= !gH r i (ef (r[i]?.getD []))||Zb r (r[i]?.getD [])
theorem ib:dc Tryz.prog YW:=mi a7 (aM YT aY) 20 (0+4)
theorem Zc (L n:Nat) (a0 a1 a2 a3 a4 a5 a6:Int) {r:aj} (hl:r.length≤1000) (hz: ∀e∈r,aq z7 e=true) (b:Bool) (k:aX) :
  LB tab YV bu L (n+4) q4 (xA (xB (xB (xB (xB O8))))) (Q3 (p7 a0 a1 a2 a3 a4 a5 a6) r b) k=k .bC (Q4 (!b||Zb r (p7 a0 a1 a2 a3 a4 a5 a6))):=by
 rw [aeY]
 have hp:Zb r (p7 a0 a1 a2 a3 a4 a5 a6)=(a4==3&& !r.any (hiB (p7 a0 a1 a2 a3 a4 a5 a6))):=rfl
 rw [hp]
 cases b with
 | false=>
  cases h:(a4==(3:Int))<;>rfl
 | true=>
  cases h:(a4==(3:Int)) with
  | true=>exact au ⟨_,_,_,_,_,_,_,_,rfl,Sl.ag _ _ _,show r.length≤1000000 by omega,hz⟩
  | false=>rfl
def XM (mb:Nat) (w1:World) (r:aj) :Hid where
 B:=w1.heap.size
 H:=fun i G w=>(∀k,G k↔k=mb)∧mb < w1.heap.size∧(∀k,k < w1.heap.size→k≠mb→w.heap[k]? =w1.heap[k]?)∧w1.heap.size≤w.heap.size∧tV w mb (seen r i)
 lt i G w h k hk:=by
  rw [(h.1 k).1 hk]
  exact Nat.lt_of_lt_of_le h.2.1 h.2.2.2.1
 EL i G w w' h hb hs:=by
  refine ⟨h.1,h.2.1,fun k hk cu=>(hb k (.inl hk)).trans (h.2.2.1 k hk cu),Nat.le_trans h.2.2.2.1 hs,?_⟩
  obtain ⟨es,clock,h1,h2⟩:=h.2.2.2.2
  exact ⟨es,clock,(hb mb (.inl h.2.1)).trans h1,h2⟩
theorem Dt {w:World} {fb mb:Nat} (h:w.heap[fb]? =some (.cells #[.map (some mb)] 304 (0,0))) :(Instr.loadAt 304 (c7 fb)).run Tryz.prog w= .ok (.map (some mb)) w:=by
 have :=dA (P:=Tryz.prog) (t:=304) (g:=false) (sz:=1) (by kernel_rfl) (by kernel_rfl) fb 0 w [.map (some mb)] (by simp) (fun j u hu=>by
  cases j with
  | zero=>
   simp at hu
   subst hu
   simp [World.cell?,h]
  | succ j=>simp at hu)
 simpa [Instr.loadAt,Instr.sureAddr] using this
theorem ic {pins:List (Nat×Value)} {a:Act} {t:Nat} {v:Value} (hp:m0 pins a) (h:(t,v)∈pins) :a.eval (.tmp t)=v:=by
 show a.tmps.getD t undef=_
 rw [Array.getD_eq_getD_getElem?,hp t v h]
 rfl
theorem zS {X:Hid} {w0:World} {G0:Nat→Prop} {S0:Nat→Nat→Prop} {N:Nat} {pins:List (Nat×Value)} {i:Nat} {st:St} {a:Act} {w:World} (hJ:ec X w0 G0 S0 N pins i st a w) {t:Nat} {n:Int} (h:st.env t= .d (.int .i64 n)) :a.eval (.tmp t)= .int .i64 n:=by
 obtain ⟨⟨G,hl,hG,hH,ρ,S,hI⟩,-,-,-⟩:=hJ
 have :=hI.env t
 rw [h] at this
 simp only [aE,aW] at this
 exact this
section
variable {w1:World} {fb mb:Nat} {S0:Nat→Nat→Prop} {u2:Value} {r:aj}
set_option maxRecDepth 100000 in
theorem Kx (hl:r.length≤1000) (hz: ∀e∈r,aq z7 e=true) (hfb:w1.heap[fb]? =some (.cells #[.map (some mb)] 304 (0,0))) (cu:fb≠mb) (hS: ∀b o,S0 b o→b < w1.heap.size∧b≠mb) (hu:aW w1 S0 (.aI [.ag false 7 r] 0) u2) :
  kY (XM mb w1 r) 267 #[c7 fb,u2] r (E2 r):=by
 intro i hi w G hH
 have hH0:=hH
 obtain ⟨h1,h2,h3,h4,h5⟩:=hH
 have ae2:fb < w1.heap.size:=(Array.getElem?_eq_some_iff.1 hfb).1
 obtain ⟨a0,a1,a2,a3,a4,a5,a6,he⟩:=fB (hz _ (List.getElem_mem hi))
 have he:r[i]=p7 a0 a1 a2 a3 a4 a5 a6:=he
 have hgi:r[i]?.getD []=p7 a0 a1 a2 a3 a4 a5 a6:=by rw [List.getElem?_eq_getElem hi]; exact he
 refine .inl ⟨⟨Tryz.f267,func23,Pb,Pc⟩,calls_of_wp func23 O' ?_⟩
 rw [ntmps23,Kv]
 have hTs:(#[gk r[i]]++ #[c7 fb,u2]++Array.replicate (28 - (#[gk r[i]]++ #[c7 fb,u2]).size) undef).size=28:=by simp
 have hT0:(#[gk r[i]]++ #[c7 fb,u2]++Array.replicate (28 - (#[gk r[i]]++ #[c7 fb,u2]).size) undef)[0]? =some (gk r[i]):=by simp [Array.getElem?_append]
 have hT1:(#[gk r[i]]++ #[c7 fb,u2]++Array.replicate (28 - (#[gk r[i]]++ #[c7 fb,u2]).size) undef)[1]? =some (c7 fb):=by simp [Array.getElem?_append]
 have hT2:(#[gk r[i]]++ #[c7 fb,u2]++Array.replicate (28 - (#[gk r[i]]++ #[c7 fb,u2]).size) undef)[2]? =some u2:=by simp [Array.getElem?_append]
 generalize (#[gk r[i]]++ #[c7 fb,u2]++Array.replicate (28 - (#[gk r[i]]++ #[c7 fb,u2]).size) undef)=T at *
 have hk:Kept w1 w S0 S0:=⟨fun _ _ h=>h,fun b p Fo u hu=>by
  rw [World.cell?] at hu ⊢
  rw [h3 b (hS b p Fo).1 (hS b p Fo).2]
  exact hu⟩
 have g7:=aW.kept hk _ _ hu
 have hS': ∀b o,S0 b o→b < w.heap.size∧ ¬ G b:=fun b o h=>⟨Nat.lt_of_lt_of_le (hS b o h).1 h4,fun hg=>(hS b o h).2 ((h1 b).1 hg)⟩
 have hJ:ec (XM mb w1 r) w G S0 28 [(1,c7 fb)] i (Q0 (p7 a0 a1 a2 a3 a4 a5 a6) r) {tmps:=T,defers:=[]} w:=by
  have hold: ∀k,k < w.heap.size∨G k→k < w.heap.size:=fun k hk=>by
   rcases hk with hk | hk
   ·exact hk
   ·exact (XM mb w1 r).lt _ _ _ hH0 k hk
  refine ⟨⟨G,hold,fun k hk=> .inl hk,hH0,fun _=>(0,0),S0,?_⟩,bJ.refl _ _,fun t v h=> ?_,h4⟩
  ·refine ⟨hTs,rfl,fun t=> ?_,fun m t want v hv _=> ?_,fun m t want v hv _=> ?_,fun s o hs=> ?_,fun s s' o o' hs dp hr=> ?_,fun b o h=>(hS' b o h).1,fun _ _ h=>h,fun _ _ h=> .inl h,bJ.refl _ _,by omega,fun _ _=>rfl⟩
   ·match t with
    | 0=>
     show aE w S0 _ (.d (.agg (p7 a0 a1 a2 a3 a4 a5 a6))) (T.getD 0 undef)
     rw [Array.getD_eq_getD_getElem?,hT0]
     simp only [aE,Option.getD_some]
     rw [he]
     exact Dn _ _ _ _ _ _ _ _ _
    | 1=>exact (show aE w S0 _ .undef _ by simp only [aE])
    | 2=>
     show aE w S0 _ (rb r) (T.getD 2 undef)
     rw [Array.getD_eq_getD_getElem?,hT2]
     simp only [aE,Option.getD_some]
     exact g7
    | t+3=>exact (show aE w S0 _ .undef _ by simp only [aE])
   ·match m with
    | 0=>cases hv
    | 1=>cases hv
    | 2=>cases hv
    | m+3=>cases hv
   ·match m with
    | 0=>cases hv
    | 1=>cases hv
    | 2=>cases hv
    | m+3=>cases hv
   ·cases hs
   ·cases hs
  ·simp only [List.mem_singleton,Prod.mk.injEq] at h
   obtain ⟨rfl,rfl⟩:=h
   exact hT1
 have Zd: ∀{pins:List (Nat×Value)} {j:Nat} {st:St} {a:Act} {w':World},ec (XM mb w1 r) w G S0 28 pins j st a w'→w'.heap[fb]? =some (.cells #[.map (some mb)] 304 (0,0)):=fun h=>by
  obtain ⟨⟨G',_,_,x,_⟩,_,_,_⟩:=h
  exact (x.2.2.1 fb ae2 cu).trans hfb
 have Mg: ∀{pins:List (Nat×Value)} {j:Nat} {st:St} {a:Act} {w':World},ec (XM mb w1 r) w G S0 28 pins j st a w'→tV w' mb (seen r j):=fun h=>by
  obtain ⟨⟨G',_,_,x,_⟩,_,_,_⟩:=h
  exact x.2.2.2.2
 have ae3:ef r[i]=a1:=by rw [he]; rfl
 refine wp_seq (dg (N:=28) (R:=[]) (pins:=[(1,c7 fb)]) ib (h:=q0) rfl aeV cM0 (fun k=>pw0 20 0 a0 a1 a2 a3 a4 a5 a6 r k) hJ fun b1 v1 BL=> ?_)
 rw [Pd]
 refine wp_seq (wp_region ?_)
 rw [YY,show List.range 5=[0,1,2,3,4] from rfl]
 refine dO aeD Y1 (r5 (pins:=[(1,c7 fb)]) Y6 (by omega) Pf BL (u:= .map (some mb)) ?_ fun b2 v2 Dk=> ?_)
 ·unfold execOp
  rw [aeM]
  simp only [ic BL.CI (List.mem_singleton.2 rfl),Sem.run_bind,Dt (Zd BL),Result.andThen_ok,Sem.run_pure]
 refine ff aeE (tH (pins:=[(7,.map (some mb)),(1,c7 fb)]) ib aeQ Pg Dk (st':=((Q1 (p7 a0 a1 a2 a3 a4 a5 a6) r).put 7 .undef).put 8 (.ptr 3 7 0 1)) rfl fun b3 v3 Kl=> ?_)
 refine ff aeF (tH (pins:=[(7,.map (some mb)),(1,c7 fb)]) ib aeR Ph Kl (st':=(((Q1 (p7 a0 a1 a2 a3 a4 a5 a6) r).put 7 .undef).put 8 (.ptr 3 7 0 1)).put 9 (.d (.int .i64 a1))) rfl fun b4 v4 BM=> ?_)
 refine dO aeG Y3 (JD (pins:=[(7,.map (some mb)),(1,c7 fb)]) Y7 (by omega) Pj BM (x:= .bool (gH r i a1)) (u:= .bool (gH r i a1)) (fun _ _=>by simp only [aW]) ?_ fun b5 v5 EX=> ?_)
 ·unfold execOp
  rw [aeN]
  simp only [ic BM.CI (List.mem_cons_self ..),zS BM (t:=9) (n:=a1) rfl,Sem.run_bind,HI (Mg BM) (E0 r i a1),Result.andThen_ok,Sem.run_pure]
 refine ff aeH (tH (pins:=[(7,.map (some mb)),(1,c7 fb)]) ib aeS Pk EX (st':=((((Q1 (p7 a0 a1 a2 a3 a4 a5 a6) r).put 7 .undef).put 8 (.ptr 3 7 0 1)).put 9 (.d (.int .i64 a1))).put 10 (.d (.bool (gH r i a1))) |>.put 5 (.d (.bool (gH r i a1)))) rfl fun b6 v6 Mc=> ?_)
 have hJ7:=(Mc.dU q1).C3 (pins':=[(1,c7 fb)]) (fun t v h=>by simp at h; simp [h])
 rw [show (((((Q1 (p7 a0 a1 a2 a3 a4 a5 a6) r).put 7 .undef).put 8 (.ptr 3 7 0 1)).put 9 (.d (.int .i64 a1))).put 10 (.d (.bool (gH r i a1))) |>.put 5 (.d (.bool (gH r i a1)))).dU q1=Q2 (p7 a0 a1 a2 a3 a4 a5 a6) r (gH r i a1) from rfl] at hJ7
 show (Code.seq (kA (kB (kB uP))) _).wp _ _ _ _
 rw [Pe]
 refine wp_seq (wp_region ?_)
 rw [YZ,show List.range 4=[0,1,2,3] from rfl]
 refine dO aeI Y4 (r5 (pins:=[(1,c7 fb)]) Y8 (by omega) Pl hJ7 (u:= .map (some mb)) ?_ fun c2 x2 Ze=> ?_)
 ·unfold execOp
  rw [aeO]
  simp only [ic hJ7.CI (List.mem_singleton.2 rfl),Sem.run_bind,Dt (Zd hJ7),Result.andThen_ok,Sem.run_pure]
 refine ff aeJ (tH (pins:=[(11,.map (some mb)),(1,c7 fb)]) ib aeT Pm Ze (st':=((Q2 (p7 a0 a1 a2 a3 a4 a5 a6) r (gH r i a1)).put 11 .undef).put 12 (.ptr 3 7 0 1)) rfl fun c3 x3 hK3=> ?_)
 refine ff aeK (tH (pins:=[(11,.map (some mb)),(1,c7 fb)]) ib aeU Pn hK3 (st':=(((Q2 (p7 a0 a1 a2 a3 a4 a5 a6) r (gH r i a1)).put 11 .undef).put 12 (.ptr 3 7 0 1)).put 13 (.d (.int .i64 a1))) rfl fun c4 x4 hK4=> ?_)
 obtain ⟨ob,bU,ij⟩:=Kw a1 (Mg hK4)
 refine dO aeL Y5 (ta (w1:={x4 with heap:=x4.heap.setIfInBounds mb ob}) ?_ ?_)
 ·unfold execOp
  rw [aeP]
  simp only [ic hK4.CI (List.mem_cons_self ..),zS hK4 (t:=13) (n:=a1) rfl,Sem.run_bind,show c4.eval (.const (.bool true))= .bool true from rfl,bU,Result.andThen_ok,Sem.run_pure]
 rw [Y9]
 have hK5:=zr (X':=XM mb w1 r) (i':=i+1) hS' h4 hK4 (w':={x4 with heap:=x4.heap.setIfInBounds mb ob}) fun G' hx _=>by
  obtain ⟨y1,y2,y3,y4,y5⟩:=hx
  refine ⟨G',⟨y1,y2,fun k hk Ei=> ?_,?_,?_⟩,⟨rfl,rfl,rfl,?_,fun k hk=> ?_⟩,fun k hk=> .inl hk⟩
  ·show (x4.heap.setIfInBounds mb ob)[k]? =_
   rw [Array.getElem?_setIfInBounds_ne (Ne.symm Ei)]
   exact y3 k hk Ei
  ·show w1.heap.size≤(x4.heap.setIfInBounds mb ob).size
   rw [Array.size_setIfInBounds]
   exact y4
  ·rw [← E1 r hi,ae3]
   exact ij
  ·show x4.heap.size≤(x4.heap.setIfInBounds mb ob).size
   rw [Array.size_setIfInBounds]
   exact Nat.le_refl _
  ·show (x4.heap.setIfInBounds mb ob)[k]? =_
   rw [Array.getElem?_setIfInBounds_ne (fun h=>hk.2 ((y1 k).2 h.symm))]
 have hK6:=(hK5.dU q1).C3 (pins':=[(1,c7 fb)]) (fun t v h=>by simp at h; simp [h])
 rw [show ((((Q2 (p7 a0 a1 a2 a3 a4 a5 a6) r (gH r i a1)).put 11 .undef).put 12 (.ptr 3 7 0 1)).put 13 (.d (.int .i64 a1))).dU q1=Q2 (p7 a0 a1 a2 a3 a4 a5 a6) r (gH r i a1) from rfl] at hK6
 show (Code.seq (kA (kB (kB (kB uP)))) _).wp _ _ _ _
 refine wp_seq (dg (N:=28) (R:=[]) (pins:=[(1,c7 fb)]) ib (h:=q3) rfl aeW cM3 (fun k=>pw3 20 0 a0 a1 a2 a3 a4 a5 a6 r (gH r i a1) k) hK6 fun d1 z1 hL1=> ?_)
 refine wp_seq (dg (N:=28) (R:=[]) (pins:=[(1,c7 fb)]) ib (h:=q4) rfl aeX cM4 (fun k=>Zc 20 0 a0 a1 a2 a3 a4 a5 a6 hl hz (gH r i a1) k) hL1 fun d2 z2 hL2=>wp_ret ?_)
 obtain ⟨r1,v,r2,S',r3⟩:=GZ YX (show jN (Q4 (!gH r i a1||Zb r (p7 a0 a1 a2 a3 a4 a5 a6))) [.t 4]=some (.bool (!gH r i a1||Zb r (p7 a0 a1 a2 a3 a4 a5 a6))) from rfl) (fun B B' w S v _ h=>h) hL2
 refine ⟨r1,v,r2,v,rfl,?_⟩
 have hv:v= .bool (E2 r i):=by
  unfold E2
  rw [hgi]
  have h:=r3.res
  simp only [jv,aW] at h
  exact h
 obtain ⟨⟨G',XY,hG',hx,hI⟩,fm,JC,_⟩:=hL2
 exact ⟨hv,G',hx,fm,hG'⟩
end
noncomputable def spD:FuncId→Option aR:=bL 43 (jk 86) aV
theorem Po: ∀f s,spD f=some s→s.ok Tryz.prog f:=aM HG aY
noncomputable abbrev Zf:FuncId→aw→aH:=eZ tab spD bu 20 (0+4)
theorem tW:dc Tryz.prog Zf:=mi a7 Po 20 (0+4)
noncomputable def B8:Code:=Tryz.f263.body.getD .skip
def A8:AC:=Ol.body.erase
def e0:Hint:=⟨0,[1,2],[2],[],[]⟩
def e1:Hint:=⟨0,[2],[2],[],[]⟩
def D0 (l:aj) (t:Int) :St:=St.of [(0,.d (.ag false 7 l)),(1,.d (.int .i64 t))] []
def D1 (l:aj) (t:Int) :St:=St.of [(1,.d (.int .i64 t)),(2,.ptr 2 1 0 0)] [(2,some (.aC 32 1 [[.ag false 7 l]]))]
def D2 (r:aj) :St:=St.of [(2,.ptr 2 1 0 0)] [(2,some (.aC 32 1 [[.ag false 7 r]]))]
theorem Zg:Tryz.f263.body=some B8:=by kernel_rfl
theorem func8:Tryz.prog.funcs[263]? =some Tryz.f263:=by kernel_rfl
theorem Zh:(Tryz.f263.name== "runtime.NumGoroutine")=false:=by kernel_rfl
theorem Zi:Tryz.f263.body.isNone=false:=by kernel_rfl
theorem ntmps8:Tryz.f263.ntmps=13:=by kernel_rfl
theorem Zj:bm (oE Tryz.prog) Tryz.f263.results.toList=some [.t 4]:=by kernel_rfl
theorem Pp:B8= .seq (kA B8) (.seq (kA (kB B8)) (.seq (kA (kB (kB B8))) (.seq (kA (kB (kB (kB B8)))) .ret))):=by kernel_rfl
noncomputable def E3:Array Oper:=rJ (kA (kB (kB B8)))
noncomputable def uQ:Array Oper:=rJ (kA (kB (kB (kB B8))))
theorem Pq:kA (kB (kB B8))= .region (idG (kA (kB (kB B8)))) E3 false:=by kernel_rfl
theorem Pr:kA (kB (kB (kB B8)))= .region (idG (kA (kB (kB (kB B8))))) uQ false:=by kernel_rfl
theorem Zk:E3.size=3:=by kernel_rfl
theorem Zl:uQ.size=4:=by kernel_rfl
noncomputable def oN (k:Nat) :Oper:=match E3[k]? with | some o=>o | none=>QX
noncomputable def oP (k:Nat) :Oper:=match uQ[k]? with | some o=>o | none=>QX
theorem ae4:E3[0]? =some (oN 0):=by kernel_rfl
theorem ae5:E3[1]? =some (oN 1):=by kernel_rfl
theorem ae6:E3[2]? =some (oN 2):=by kernel_rfl
theorem ae7:uQ[0]? =some (oP 0):=by kernel_rfl
theorem ae8:uQ[1]? =some (oP 1):=by kernel_rfl
theorem ae9:uQ[2]? =some (oP 2):=by kernel_rfl
theorem ae':uQ[3]? =some (oP 3):=by kernel_rfl
theorem Zm:(oN 0).guard=none:=by kernel_rfl
theorem Zn:(oN 1).guard=none:=by kernel_rfl
theorem Zo:(oN 2).guard=none:=by kernel_rfl
theorem Zp:(oP 1).guard=none:=by kernel_rfl
theorem Zq:(oP 2).guard=none:=by kernel_rfl
theorem afa:(oN 0).op= .makeMap 304 none:=by kernel_rfl
theorem afb:(oN 1).op= .alloc 304:=by kernel_rfl
theorem afc:(oN 2).op= .store 304 (.tmp 5) (.tmp 9):=by kernel_rfl
theorem afd:(oP 1).op= .makeFunc (.func 267) #[] #[.tmp 5,.tmp 2]:=by kernel_rfl
theorem Zr:(oN 0).dst=some 9:=by kernel_rfl
theorem Zs:(oN 1).dst=some 5:=by kernel_rfl
theorem Zt:(oN 2).dst=none:=by kernel_rfl
theorem Zu:(oP 1).dst=some 11:=by kernel_rfl
theorem Zv:(oP 2).dst=some 12:=by kernel_rfl
def n10:aN:=⟨some 10,none,[],true,.load false 1 (.t 2) [.af]⟩
def n4:aN:=⟨some 4,none,[],true,.mv (.t 12)⟩
theorem afe:ix Tryz.prog [] 13 uQ (oP 0)=some n10:=by kernel_rfl
theorem Zw:ix Tryz.prog [] 13 uQ (oP 3)=some n4:=by kernel_rfl
theorem Ps:dr [2,5] (oP 0)=true:=by kernel_rfl
theorem Pt:dr [2,5] (oP 1)=true:=by kernel_rfl
noncomputable def HJ:Call:=match (oP 2).op with | .call c=>c | _=>⟨.value (.tmp 0),#[],#[]⟩
theorem aff:(oP 2).op= .call HJ:=by kernel_rfl
theorem Ky:HJ.callee= .value (.func 84):=by kernel_rfl
theorem Zx:HJ.args= #[.tmp 10,.tmp 11]:=by kernel_rfl
theorem cD0:bY Tryz.prog [] 13 (kA B8)=some (xA A8).erase:=by kernel_rfl
theorem cD1:bY Tryz.prog [] 13 (kA (kB B8))=some (xA (xB A8)).erase:=by kernel_rfl
theorem afg:df [] (kA B8)=true:=by kernel_rfl
theorem afh:df [] (kA (kB B8))=true:=by kernel_rfl
theorem dw0 (L n:Nat) (l:aj) (t:Int) (k:aX) :LB tab spD bu L (n+4) e0 (xA A8) (D0 l t) k=k .bC (D1 l t):=by kernel_rfl
theorem dw1 (L n:Nat) (l:aj) (t:Int) (k:aX) :LB tab spD bu L (n+4) e1 (xA (xB A8)) (D1 l t) k=aP ((jk 86).D [.ag false 7 l,.int .i64 t]) (k .bC (D2 (l.filter (bW 86 t)))):=by kernel_rfl
theorem E4 {a:Act} {w:World} {vl:Value} {g:FuncId} {caps:Array Value} (h8:a.eval (.tmp 10)=vl) (h9:a.eval (.tmp 11)=vf g caps) :(execOp a.eval (oP 2)).run Tryz.prog w=(callFunc 84 #[vl,vf g caps]).run Tryz.prog w:=by
 unfold execOp
 rw [aff]
 simp only [Ky,Zx,resolve,Act.eval,Deferred.ofValue,Sem.run_bind,Sem.run_pure,Result.andThen_ok,invoke,Array.empty_append,Array.append_empty]
 rw [show Array.map a.eval #[Operand.tmp 10,Operand.tmp 11]= #[a.eval (.tmp 10),a.eval (.tmp 11)] from by simp,h8,h9]
def Zy (O:aj) :St:=St.of [(4,.ah 12 7 0 O.length)] [(12,some (.aC 60 7 O))]
theorem afi (O:aj) :jt (Zy O) [.t 4] some=zM O:=by kernel_rfl
theorem Zz (O:aj) :jN (Zy O) [.t 4]=some (.sl (.own 60) 7 O):=by
 have e:jt (Zy O) [.t 4] some=jN (Zy O) [.t 4]:=by rw [gy]; simp
 rw [← e,afi]
 unfold zM
 rw [decide_eq_true rfl,cond_true]
theorem Pu {w0:dw} {S0:Nat→Nat→Prop} {O:aj} {a:Act} {w:World} (hI:cF w0 S0 13 (place 12 (py O) (St.of [] [])) a w) {R:Ending→World→Prop} (hR: ∀v w' S',iC w0 S0 (py O) v w' S'→R (.returned v) w') :
  wpOps Tryz.prog uQ (Exit.then (Code.ret.wp Tryz.prog (bodyPost Tryz.prog Tryz.f263 R)) (bodyPost Tryz.prog Tryz.f263 R)) [3] a w:=by
 refine ff ae' ?_
 cases O with
 | nil=>
  refine gf cB Zw hI (st':=((St.of [] []).put 12 (.d .af)).put 4 (.d .af)) rfl fun a' w' e7=>wp_ret ?_
  obtain ⟨ρ,S,e7⟩:=e7
  obtain ⟨v,S',h1,h2⟩:=gV (fn:=Tryz.f263) e7 Zj (r:= .af) rfl
  exact ⟨e7.defers,v,h1,hR v w' S' h2⟩
 | cons b t=>
  refine gf cB Zw hI (st':=((((St.of [] []).at_ 12 (.aC 60 7 (b::t))).put 12 (.ah 12 7 0 (b::t).length))).put 4 (.ah 12 7 0 (b::t).length)) rfl fun a' w' e7=>wp_ret ?_
  have sS:=e7.dU ⟨0,[4],[12],[],[]⟩
  have hs:(((((St.of [] []).at_ 12 (.aC 60 7 (b::t))).put 12 (.ah 12 7 0 (b::t).length))).put 4 (.ah 12 7 0 (b::t).length)).dU ⟨0,[4],[12],[],[]⟩=Zy (b::t):=rfl
  rw [hs] at sS
  obtain ⟨ρ,S,sS⟩:=sS
  obtain ⟨v,S',h1,h2⟩:=gV (fn:=Tryz.f263) sS Zj (Zz (b::t))
  exact ⟨sS.defers,v,h1,hR v w' S' h2⟩
theorem Pv (w:World) :(zeroValue 304).run Tryz.prog w= .ok (.map none) w:=by kernel_rfl
theorem E5 (w:World) :(Instr.alloc 304 true (.tuple #[])).run Tryz.prog w= .ok (c7 w.heap.size) (w.alloc (.cells #[.map none] 304)):=by
 simp [Instr.alloc,Pv,newVar,newRow,Result.andThen,Value.cells]
theorem E6 (w:World) (mb:Nat) :(Instr.storeAt 304 (c7 w.heap.size) (.map (some mb))).run Tryz.prog (w.alloc (.cells #[.map none] 304))= .ok () (w.alloc (.cells #[.map (some mb)] 304)):=by
 have :=run_storeCells_at Tryz.prog w.heap.size 0 304 [.map (some mb)] 0 #[.map none] (w.alloc (.cells #[.map none] 304)) (en _ _) (by simp) (by simp [Value.oneCell'])
 rw [World.setRow_alloc_new] at this
 simp [Instr.storeAt,Instr.sureAddr,storeVar,cY (P:=Tryz.prog) (t:=304) (n:=1) (by kernel_rfl),Value.cells,aU] at this ⊢
 exact this
def XB (fb mb:Nat) :Hid where
 B:=0
 H:=fun i G w=>(∀k,G k↔k=fb∨k=mb)∧fb≠mb∧w.heap[fb]? =some (.cells #[.map (some mb)] 304 (0,0))∧w.heap[mb]? =some (.map #[] 0)
 lt i G w h k hk:=by
  rcases (h.1 k).1 hk with rfl | rfl
  ·exact (Array.getElem?_eq_some_iff.1 h.2.2.1).1
  ·exact (Array.getElem?_eq_some_iff.1 h.2.2.2).1
 EL i G w w' h hb hs:=⟨h.1,h.2.1,(hb fb (.inr ((h.1 fb).2 (.inl rfl)))).trans h.2.2.1,(hb mb (.inr ((h.1 mb).2 (.inr rfl)))).trans h.2.2.2⟩
theorem Mh {X:Hid} {w0:World} {G0:Nat→Prop} {S0:Nat→Nat→Prop} {N:Nat} {pins:List (Nat×Value)} {i:Nat} {st:St} {a:Act} {w:World} {t:Nat} (ht:t < N) (gQ: ∀v,(t,v) ∉ pins) (hJ:ec X w0 G0 S0 N pins i st a w) (u:Value) :
  ec X w0 G0 S0 N ((t,u)::pins) i (st.put t .undef) (a.put (some t) u) w:=by
 obtain ⟨⟨G,hl,hG,hH,ρ,S,hI⟩,fm,hp,nY⟩:=hJ
 refine ⟨⟨G,hl,hG,hH,ρ,S,hI.put ht (by simp only [aE])⟩,fm,fun n v hn=> ?_,nY⟩
 rcases List.mem_cons.1 hn with hn | hn
 ·cases hn
  show (a.tmps.setIfInBounds t u)[t]? =some u
  rw [Array.getElem?_setIfInBounds_self_of_lt (by rw [hI.size]; exact ht)]
 ·show (a.tmps.setIfInBounds t u)[n]? =some v
  rw [Array.getElem?_setIfInBounds_ne (fun e=>gQ v (by rw [e]; exact hn))]
  exact hp n v hn
theorem ZA {X:Hid} {w0:World} {G0:Nat→Prop} {S0:Nat→Nat→Prop} {N:Nat} {pins:List (Nat×Value)} {i:Nat} {st:St} {a:Act} {w:World} {t:Nat} (ht:t < N) (hJ:ec X w0 G0 S0 N pins i st a w) :
  ec X w0 G0 S0 N ((t,a.eval (.tmp t))::pins) i st a w:=by
 obtain ⟨⟨G,hl,hG,hH,ρ,S,hI⟩,fm,hp,nY⟩:=hJ
 refine ⟨⟨G,hl,hG,hH,ρ,S,hI⟩,fm,fun n v hn=> ?_,nY⟩
 rcases List.mem_cons.1 hn with hn | hn
 ·cases hn
  show a.tmps[t]? =some (a.tmps.getD t undef)
  have hs:t < a.tmps.size:=by rw [hI.size]; exact ht
  rw [Array.getD_eq_getD_getElem?,Array.getElem?_eq_getElem hs]
  rfl
 ·exact hp n v hn
set_option maxRecDepth 100000 in
theorem afj {l:aj} (hz: ∀e∈l,aq z7 e=true) (hl:l.length≤1000) (t:Int) :bI Tryz.prog 263 [.ag false 7 l,.int .i64 t] (py (bH (l.filter (bW 86 t)).length (E2 (l.filter (bW 86 t))) (rowP (l.filter (bW 86 t))))):=by
 intro w vs S0 o ha hS
 refine .inl ⟨⟨Tryz.f263,func8,Zh,Zi⟩,calls_of_wp func8 Zg ?_⟩
 obtain ⟨hd,rfl⟩:=(dy (ds:=[.ag false 7 l,.int .i64 t]) rfl).1 ha
 simp only [cg] at hd
 obtain ⟨vl,_,rfl,Fs,vt,_,rfl,hvt,rfl⟩:=hd
 rw [ntmps8,Pp]
 have hJ:ec (XP w) w (fun _=>False) S0 13 [] 0 (D0 l t) {tmps:=[vl,vt].toArray++Array.replicate (13 - [vl,vt].toArray.size) undef,defers:=[]} w:=G1 (X:=XP w) (G0:=fun _=>False) (w0:=w) (S0:=S0) (N:=13) (pins:=[]) (ds:=[.ag false 7 l,.int .i64 t]) (vs:=[vl,vt]) (show (13:Nat)≤49997 by omega) (show (2:Nat)≤13 by omega) (fun j x hx=>by
  match j with
  | 0=>
   simp only [List.getElem?_cons_zero,Option.some.injEq] at hx
   subst hx
   exact ⟨vl,rfl,Fs⟩
  | 1=>
   simp only [List.getElem?_cons_succ,List.getElem?_cons_zero,Option.some.injEq] at hx
   subst hx
   exact ⟨vt,rfl,hvt⟩
  | j+2=>simp at hx) hS ⟨fun k h=>h,fun k _=>rfl,Nat.le_refl _⟩ (Nat.le_refl _) (fun t v h=>by cases h)
 have Pw: ∀e∈l.filter (bW 86 t),aq z7 e=true:=fun e he=>hz e (List.mem_filter.1 he).1
 have hlR:(l.filter (bW 86 t)).length≤1000:=Nat.le_trans (List.length_filter_le _ _) hl
 have C4: ∀b o,S0 b o→b < w.heap.size∧ ¬ (fun _:Nat=>False) b:=fun b o h=>⟨hS b o h,fun h=>h⟩
 refine wp_seq (dg (N:=13) (R:=[]) (pins:=[]) tW (h:=e0) rfl afg cD0 (fun k=>dw0 20 0 l t k) hJ fun a1 w1 BL=> ?_)
 refine wp_seq (dg (N:=13) (R:=[]) (pins:=[]) tW (h:=e1) rfl afh cD1 (e:= .bC) (st':=D2 (l.filter (bW 86 t))) (fun k=>(dw1 20 0 l t k).trans (au ⟨_,_,rfl,Sl.ag _ _ _,hl,hz⟩)) BL fun a2 w2 Dk=> ?_)
 generalize l.filter (bW 86 t)=r at *
 rw [Pq]
 refine wp_seq (wp_region ?_)
 rw [Zk,show List.range 3=[0,1,2] from rfl]
 refine dO ae4 Zm (ep (u:= .map (some w2.heap.size)) (w1:=w2.alloc (.map #[] 0)) ?_ ?_)
 ·unfold execOp
  rw [afa]
  simp only [Option.map_none,Sem.run_bind,run_makeMap,Result.andThen_ok,Sem.run_pure]
 rw [Zr]
 have qX:(w2.alloc (.map #[] 0)).heap.size=w2.heap.size+1:=Array.size_push _
 refine dO ae5 Zn (ep (u:=c7 (w2.heap.size+1)) (w1:=(w2.alloc (.map #[] 0)).alloc (.cells #[.map none] 304)) ?_ ?_)
 ·unfold execOp
  rw [afb]
  simp only [Sem.run_bind,E5,Result.andThen_ok,Sem.run_pure,qX]
 rw [Zs]
 refine dO ae6 Zo (ta (w1:=(w2.alloc (.map #[] 0)).alloc (.cells #[.map (some w2.heap.size)] 304)) ?_ ?_)
 ·have iq:a2.tmps.size=13:=by
   obtain ⟨⟨_,_,_,_,_,_,hI⟩,_,_,_⟩:=Dk
   exact hI.size
  have h5:((a2.put (some 9) (.map (some w2.heap.size))).put (some 5) (c7 (w2.heap.size+1))).eval (.tmp 5)=c7 (w2.heap.size+1):=by
   show ((a2.tmps.setIfInBounds 9 _).setIfInBounds 5 _).getD 5 undef=_
   rw [Array.getD_eq_getD_getElem?,Array.getElem?_setIfInBounds_self_of_lt (by rw [Array.size_setIfInBounds,iq]; omega)]
   rfl
  have h9:((a2.put (some 9) (.map (some w2.heap.size))).put (some 5) (c7 (w2.heap.size+1))).eval (.tmp 9)= .map (some w2.heap.size):=by
   show ((a2.tmps.setIfInBounds 9 _).setIfInBounds 5 _).getD 9 undef=_
   rw [Array.getD_eq_getD_getElem?,Array.getElem?_setIfInBounds_ne (by omega),Array.getElem?_setIfInBounds_self_of_lt (by rw [iq]; omega)]
   rfl
  unfold execOp
  rw [afc]
  have hp:=E6 (w2.alloc (.map #[] 0)) w2.heap.size
  rw [qX] at hp
  simp only [h5,h9,Sem.run_bind,hp,Result.andThen_ok,Sem.run_pure]
 rw [Zt]
 have Kl:=zr (X':=XB (w2.heap.size+1) w2.heap.size) (i':=0) C4 (Nat.zero_le _) Dk (w':=(w2.alloc (.map #[] 0)).alloc (.cells #[.map (some w2.heap.size)] 304)) fun G hx _=>by
  refine ⟨fun k=>k=w2.heap.size+1∨k=w2.heap.size,⟨fun k=>Iff.rfl,by omega,?_,?_⟩,⟨rfl,rfl,rfl,?_,fun k hk=> ?_⟩,fun k hk=> .inr (by omega)⟩
  ·have :=en (w2.alloc (.map #[] 0)) (.cells #[.map (some w2.heap.size)] 304)
   rwa [qX] at this
  ·rw [Below.heap_alloc _ _ _ (by rw [qX]; omega)]
   exact en w2 _
  ·show w2.heap.size≤((w2.heap.push _).push _).size
   rw [Array.size_push,Array.size_push]
   omega
  ·rw [Below.heap_alloc _ _ _ (by rw [qX]; omega),Below.heap_alloc _ _ _ hk.1]
 have BM:=(Mh (t:=9) (by omega) (by simp) Kl (.map (some w2.heap.size))).C3 (pins':=[]) (fun t v h=>by cases h)
 have EX:=Mh (t:=5) (by omega) (by simp) BM (c7 (w2.heap.size+1))
 have Mc:=ZA (t:=2) (by omega) (EX.dU e1)
 rw [show (((D2 r).put 9 .undef).put 5 .undef).dU e1=D2 r from rfl] at Mc
 show (Code.seq (kA (kB (kB (kB B8)))) _).wp _ _ _ _
 rw [Pr]
 refine wp_seq (wp_region ?_)
 rw [Zl,show List.range 4=[0,1,2,3] from rfl]
 generalize hu2:((a2.put (some 9) (.map (some w2.heap.size))).put (some 5) (c7 (w2.heap.size+1))).eval (.tmp 2)=u2 at Mc
 generalize w2.heap.size+1=fb at *
 generalize w2.heap.size=mb at *
 refine ff ae7 (tH (pins:=[(2,u2),(5,c7 fb)]) tW afe Ps Mc (st':=(D2 r).put 10 (.d (.ag false 7 r))) rfl fun b1 v1 hK1=> ?_)
 refine dO ae8 Zp (r5 (pins:=[(2,u2),(5,c7 fb)]) Zu (by omega) Pt hK1 (u:=vf 267 #[c7 fb,u2]) ?_ fun b2 v2 Ze=> ?_)
 ·unfold execOp
  rw [afd]
  simp only [Instr.makeFunc,Sem.run_bind,Sem.run_pure,Result.andThen_ok]
  rw [show Array.map b1.eval #[Operand.tmp 5,Operand.tmp 2]= #[b1.eval (.tmp 5),b1.eval (.tmp 2)] from by simp,ic hK1.CI (t:=5) (v:=c7 fb) (by simp),ic hK1.CI (t:=2) (v:=u2) (by simp),show Array.map b1.eval #[]= #[] from by simp]
 refine dO ae9 Zq ?_
 have p11:=ic Ze.CI (t:=11) (v:=vf 267 #[c7 fb,u2]) (by simp)
 have p2:=ic Ze.CI (t:=2) (v:=u2) (by simp)
 obtain ⟨G,ρ,S,hx,hI,aZ,Sc,hGB⟩:=Sd (fun k h=>h) Ze
 obtain ⟨y1,y2,y3,y4⟩:=hx
 have ZB: ∀b o,uL (((D2 r).put 10 (.d (.ag false 7 r))).put 11 .undef) ρ S b o→ ¬ G b:=by
  rintro b o (h | ⟨s,ob,hs,rfl⟩)
  ·rcases Sc b o h with h | h
   ·intro hg
    have :=hGB b hg
    have :=hS b o h
    omega
   ·exact h
  ·exact aZ s ob hs
 have rN:aE v2 S ρ (.d (.ag false 7 r)) (b2.eval (.tmp 10)):=hI.env 10
 have e2:aE v2 S ρ (.ptr 2 1 0 0) u2:=p2 ▸ hI.env 2
 have r10:aW v2 (uL (((D2 r).put 10 (.d (.ag false 7 r))).put 11 .undef) ρ S) (.ag false 7 r) (b2.eval (.tmp 10)):=snap_all hI rfl rN
 have r2:aW v2 (uL (((D2 r).put 10 (.d (.ag false 7 r))).put 11 .undef) ρ S) (.aI [.ag false 7 r] 0) u2:=snap_all hI rfl e2
 have hGm: ∀b,b=mb→G b:=fun b h=>(y1 b).2 (.inr h)
 refine wg (X:=XM mb v2 r) (G0:=fun k=>k=mb) (g:=267) (caps:= #[c7 fb,u2]) (dec:=E2 r) (Kx hlR Pw y3 y2 (fun b o h=>⟨rZ hI b o h,fun e=>ZB b o h (hGm b e)⟩) r2) Pw hlR hI.freeze Zv (by omega) r10 (E4 rfl p11) ⟨fun k=>Iff.rfl,(Array.getElem?_eq_some_iff.1 y4).1,fun k _ _=>rfl,Nat.le_refl _,?_⟩ (Nat.le_refl _) (fun k hk hm=> ?_) (fun b o h e=>ZB b o h (hGm b e)) fun a' w' e7=>Pu e7 fun v w' S' hp=>⟨v,rfl,S',hp⟩
 ·refine ⟨#[],0,y4,fun x hx=>by simp at hx,fun n hn=> ?_⟩
  obtain ⟨e,he,_⟩:=hn
  simp at he
 ·have :=hGB k (hGm k hm)
  have h2:k < w.heap.size:=hk
  omega
end Go.Proofs.YtglbgfcegifeeaaGreat
namespace Go.Proofs.YtglbgfcegifeeaaGreat.Fz
open Go Go.Proofs Go.RowKit Vm
def tb {α:Type} :Nat→Nat→(Nat→α)→List α
 | 0,_,_=>[]
 | c+1,g,f=>f g::tb c (g+1) f
def zT (n:Nat) (f:Nat→Nat→aw) :List aj:=tb n 0 fun i=>tb n 0 (f i)
def eT (B:List aj) :aj:=B.map fun r=>[.ag false 1 r]
def sqo (B:List aj) :aj:=B.map fun r=>[.sl (.own 2) 1 r]
def bq (A:aj) (B:List aj) (P:aj) (Q:List aj) :aw:=bk A (eT B) P (eT Q)
def ZC (A:aj) (B:List aj) (P:aj) (Q:List aj) :DV:=
 .agg [.sl (.own 96) 3 A,.sl (.cT 29) 1 (sqo B),.sl (.own 2) 1 P,.sl (.cT 29) 1 (sqo Q)]
def xF (sz:Nat) (A:aj) :Bool:=A.all fun (e:aw)=>e.length==sz&&e.all DV.one
def HK:List aj→aH→aH
 | [],K=>K
 | r::B,K=>cond (xF 1 r) (HK B K) none
theorem t89 {n:Nat} (h:3≤n∧n≤6) (m:Nat) (a p:Nat→aw) (b q:Nat→Nat→aw) :
  FK tab aV bu 20 (m+12) 89 [.agg (bq (tb n 0 a) (zT n b) (tb n 0 p) (zT n q))]=
   cond (xF 3 (tb n 0 a)) (HK (zT n b) (cond (xF 1 (tb n 0 p)) (HK (zT n q) (some (ZC (tb n 0 a) (zT n b) (tb n 0 p) (zT n q)))) none)) none:=by
 obtain ⟨h1,h2⟩:=h
 obtain ⟨n,rfl⟩ : ∃c,n=c+3:=⟨n - 3,by omega⟩
 match n,h2 with
 | 0,_=>show FK tab aV bu 20 (m+12) 89 _=_; kernel_rfl
 | 1,_=>show FK tab aV bu 20 (m+12) 89 _=_; kernel_rfl
 | 2,_=>show FK tab aV bu 20 (m+12) 89 _=_; kernel_rfl
 | 3,_=>show FK tab aV bu 20 (m+12) 89 _=_; kernel_rfl
 | c+4,h=>omega
def Bks (n g:Nat) (B:List aj) :List (Nat×Option Ob):=(23+100000 * g,some (.mix 29 1 (zy n 23 n (g+1))))::QS 23 n (g+1) B
def Mi:Nat→Nat→List (Nat×Option Ob)
 | 0,_=>[]
 | c+1,g=>(23+100000 * g,none)::Mi c (g+1)
def Mj (n:Nat) (b0:aw) (A:aj) (B:List aj) (P:aj) (Q:List aj) :List (Nat×Option Ob):=
 (67,none)::(100023,some (.aC 96 3 A))::(Bks n 2 B++((23+100000 * (n+3),some (.aC 2 1 P))::(Bks n (n+4) Q++(Mi (2 * (6 - n)) (2 * n+5)++
  [(2,some (.aC 31 4 [b0])),(4,some (.aC 31 4 [[.af,.af,.af,.af]])),(7,some (.mix 31 4 [[.ah 100023 3 0 n,.ah 200023 1 0 n,.ah (23+100000 * (n+3)) 1 0 n,.ah (23+100000 * (n+4)) 1 0 n]]))]))))
def zU (n:Nat) (l:aj) (i:Int) (b0:aw) (A:aj) (B:List aj) (P:aj) (Q:List aj) :St:=
 St.of [(2,.ptr 2 4 0 0),(4,.ptr 4 4 0 0),(7,.ptr 7 4 0 0),(24,.d (.ag false 7 l)),(25,.d (.int .i64 (l.length:Int))),(26,.d (.int .i64 i))] (Mj n b0 A B P Q)
def Du (n:Nat) (b0:aw) (A:aj) (B:List aj) (P:aj) (Q:List aj) :St:=
 St.of [(2,.ptr 2 4 0 0),(4,.ptr 4 4 0 0),(7,.ptr 7 4 0 0)] (Mj n b0 A B P Q)
def Kz (g:Int→Int) (A:aj) (i:Int) (K:aj→aH) :aH:=
 aA A[0+i.toNat]? fun e6=>aA e6[0]? fun e8=>cond ((DV.int .i64 0).uv e8) (aA A[0+i.toNat]? fun tL=>cond (decide (1≤tL.length)) (K (A.set (0+i.toNat) (.int .i64 (IntKind.i64.wrap (g e8.ak))::List.drop 1 tL))) none) none
def HL:aR where
 D ds:= ∃a b c m,ds=[.agg [.int .i64 a,.int .i64 b,.int .i64 c],.int .i64 m]∧(0≤c∧c≤2305843009213693952)∧0≤m∧m≤4611686018427387904
 val ds:=match ds with | [.agg [.int _ a,.int _ b,.int _ c],.int _ m]=>some (.int .i64 (cI c m)) | _=>none
noncomputable def Px (A:aj) (i a:Int) (K:aj→aH) :aH:=
 aA A[0+i.toNat]? fun e=>cond (decide (3≤e.length)) (cond (jF z3 (List.take 3 e))
  (aP (HL.D [.agg [.int .i64 (aa (List.take 3 e) 0).ak,.int .i64 (aa (List.take 3 e) 1).ak,.int .i64 (aa (List.take 3 e) 2).ak],.int .i64 a])
   (aA A[0+i.toNat]? fun e2=>cond (decide (3≤e2.length)) (K (A.set (0+i.toNat) (aU e2 2 [.int .i64 (cI (aa (List.take 3 e) 2).ak a)]))) none)) none) none
noncomputable def Dv (n:Nat) (l:aj) (i:Int) (b0:aw) (A:aj) (B:List aj) (P:aj) (Q:List aj) (k:aX) :aH:=
 cond (decide (i < (l.length:Int))) (aA l[i.toNat]? fun e=>cond (aq z7 e)
  (cond (decide (0≤pF e)) (cond (decide (pF e < (n:Int))) (cond (decide (0≤pT e)) (cond (decide (pT e < (n:Int)))
  (Kz (fun x=>x - pA e) A (pF e) fun A1=>Kz (fun x=>x+pA e) A1 (pT e) fun A2=>
   cond (pC e !=3)
    (Px A2 (pF e) (pA e) fun A3=>
     cond (decide (0≤pF e)) (cond (decide (pF e < (n:Int))) (ml n 0 (0+ (pF e).toNat) fun f=>
      jJ (fun x=>x+pA e) n (uN Q f) (pT e) fun Qf=>
      cond (decide (0≤pT e)) (cond (decide (pT e < (n:Int))) (ml n 0 (0+ (pT e).toNat) fun t=>
       jJ (fun x=>x - pA e) n (uN (na Q f Qf) t) (pF e) fun Qt=>k .bC (zU n l (IntKind.i64.wrap (i+1)) b0 A3 B P (na (na Q f Qf) t Qt))) none) none) none) none)
    (cond (decide (0≤pF e)) (cond (decide (pF e < (n:Int))) (ml n 0 (0+ (pF e).toNat) fun f=>
      jJ (fun x=>x+pA e) n (uN Q f) (pT e) fun Qf=>
      cond (decide (0≤pT e)) (cond (decide (pT e < (n:Int))) (ml n 0 (0+ (pT e).toNat) fun t=>
       jJ (fun x=>x - pA e) n (uN (na Q f Qf) t) (pF e) fun Qt=>k .bC (zU n l (IntKind.i64.wrap (i+1)) b0 A2 B P (na (na Q f Qf) t Qt))) none) none) none) none)) none) none) none) none) none)
 (k (.ex 0) (Du n b0 A B P Q))
theorem t90 (n:Nat) (a b c m:Int) :FK tab aV bu 20 (n+8) 90 [.agg [.int .i64 a,.int .i64 b,.int .i64 c],.int .i64 m]=
  (some (DV.int .i64 (if (0:Int) > IntKind.i64.wrap (c - m) then (0:Int) else IntKind.i64.wrap (c - m)))):=by kernel_rfl
theorem Py:HL.ok Tryz.prog 90:=fun ds r hD hv=>by
 obtain ⟨a,b,c,m,rfl,⟨h1,h2⟩,h3,h4⟩:=hD
 cases hv
 refine aL (lsp:=bu) a7 aY 20 (0+8) ((t90 0 a b c m).trans ?_)
 rw [bx (by omega) (by omega)]
 unfold cI
 by_cases h:m≥c
 ·rw [decide_eq_true h,cond_true]
  by_cases h0:(0:Int) > c - m
  ·rw [if_pos h0]
  ·rw [if_neg h0,show c - m=0 by omega]
 ·rw [decide_eq_false h,cond_false,if_neg (by omega)]
theorem zV {α:Type} (f:Nat→α) : ∀c g,tb c g f=(List.range c).map fun j=>f (g+j)
 | 0,_=>rfl
 | c+1,g=>by
  show f g::tb c (g+1) f=_
  rw [List.range_succ_eq_map,List.map_cons,List.map_map,zV f c (g+1)]
  refine congrArg (f g:: ·) (List.map_congr_left fun j _=> ?_)
  show f (g+1+j)=f (g+ (j+1))
  rw [Nat.add_assoc,Nat.add_comm 1 j]
theorem fg {α:Type} (n:Nat) (f:Nat→α) :(List.range n).map f=tb n 0 f:=by
 rw [zV]
 exact List.map_congr_left fun j _=>by rw [Nat.zero_add]
def acc (n:Nat) (b c r:Nat→Int) :aj:=(List.range n).map fun j=>[.int .i64 (b j),.int .i64 (c j),.int .i64 (r j)]
structure PB where
 n:Nat
 gl:Nat→Int
 dj:Nat→Int
 res:Nat→Int
 mul:Nat→Int
 jI:Nat→Nat→Int
 pos:Nat→Nat→Int
def PB.dv (b:PB) :aw:=bq (acc b.n b.gl b.dj b.res) (sq b.n b.jI) (cells b.n b.mul) (sq b.n b.pos)
structure PB.ok (b:PB) :Prop where
 n3:3≤b.n
 n6:b.n≤6
 ca: ∀i,i < b.n→zx (b.gl i) (b.dj i) (b.res i)
 cm: ∀i,i < b.n→ -1≤b.mul i∧b.mul i≤2305843009213693952
 cb: ∀i j,i < b.n→j < b.n→ -1≤b.jI i j∧b.jI i j≤2305843009213693952
 cq: ∀i j,i < b.n→j < b.n→ -72057594037927936 < b.pos i j∧b.pos i j < 72057594037927936
 an: ∀i j,i < b.n→j < b.n→b.pos i j= - b.pos j i
def PB.post (b:PB) (l:aj) :PB:={b with gl:=fun j=>b.gl j+az (dM j) l,res:=fun j=>cI (b.res j) (az (dS j) l),pos:=fun f t=>b.pos f t+az (dQ f t) l}
theorem b8 (n:Nat) (b c r:Nat→Int) :(acc n b c r).length=n:=by simp [acc]
theorem tX {n:Nat} (b c r:Nat→Int) {a:Nat} (h:a < n) :(acc n b c r)[a]? =some [.int .i64 (b a),.int .i64 (c a),.int .i64 (r a)]:=by
 unfold acc
 rw [List.getElem?_map,List.getElem?_range h]
 rfl
theorem mS {n:Nat} {b c r b' c' r':Nat→Int} (e: ∀j,j < n→b j=b' j∧c j=c' j∧r j=r' j) :acc n b c r=acc n b' c' r':=by
 unfold acc
 exact List.map_congr_left fun j hj=>by obtain ⟨h1,h2,h3⟩:=e j (List.mem_range.1 hj); rw [h1,h2,h3]
theorem Dw {n:Nat} (b c r:Nat→Int) {a:Nat} (x y z:Int) (h:a < n) :(acc n b c r).set a [.int .i64 x,.int .i64 y,.int .i64 z]=acc n (fun j=>if j=a then x else b j) (fun j=>if j=a then y else c j) (fun j=>if j=a then z else r j):=by
 refine List.ext_getElem? fun j=> ?_
 by_cases hj:j < n
 ·rw [tX _ _ _ hj]
  by_cases pt:j=a
  ·subst pt
   rw [List.getElem?_set_self (by rw [b8]; exact hj),if_pos rfl,if_pos rfl,if_pos rfl]
  ·rw [List.getElem?_set_ne (fun h=>pt h.symm),tX _ _ _ hj,if_neg pt,if_neg pt,if_neg pt]
 ·rw [List.getElem?_eq_none (by rw [List.length_set,b8]; omega),List.getElem?_eq_none (by rw [b8]; omega)]
theorem zW {h:Int→Int} {n:Nat} {b c r:Nat→Int} {i:Int} {a:Nat} (hi:i=(a:Nat)) (ha:a < n) (h1: -9223372036854775808≤h (b a)) (h2:h (b a)≤9223372036854775807) (K:aj→aH) :
  Kz h (acc n b c r) i K=K (acc n (fun j=>if j=a then h (b a) else b j) c r):=by
 subst hi
 unfold Kz
 rw [Int.toNat_natCast,Nat.zero_add,tX _ _ _ ha]
 simp only [dW,List.getElem?_cons_zero,cond_true,List.length_cons,List.length_nil,decide_true,Nat.zero_add,Nat.le_refl,xn,List.drop_succ_cons,List.drop_zero]
 rw [show ((DV.int .i64 0).uv (.int .i64 (b a)))=true from rfl,cond_true,decide_eq_true (by omega),cond_true,bx h1 h2,Dw _ _ _ _ _ _ ha]
 refine congrArg K (mS fun j hj=>⟨rfl,?_,?_⟩)
 ·by_cases pt:j=a
  ·rw [if_pos pt,pt]
  ·rw [if_neg pt]
 ·by_cases pt:j=a
  ·rw [if_pos pt,pt]
  ·rw [if_neg pt]
theorem HM {n:Nat} {b c r:Nat→Int} {i m:Int} {a:Nat} (hi:i=(a:Nat)) (ha:a < n) (hr:0≤r a∧r a≤2305843009213693952) (hm:0≤m∧m≤4611686018427387904) (K:aj→aH) :
  Px (acc n b c r) i m K=K (acc n b c (fun j=>if j=a then cI (r a) m else r j)):=by
 subst hi
 unfold Px
 rw [Int.toNat_natCast,Nat.zero_add,tX _ _ _ ha]
 simp only [dW,List.length_cons,List.length_nil]
 refine (au ⟨_,_,_,_,rfl,hr,hm.1,hm.2⟩).trans ?_
 show K ((acc n b c r).set a [.int .i64 (b a),.int .i64 (c a),.int .i64 (cI (r a) m)])=_
 rw [Dw _ _ _ _ _ _ ha]
 refine congrArg K (mS fun j hj=>⟨?_,?_,rfl⟩)
 ·by_cases pt:j=a
  ·rw [if_pos pt,pt]
  ·rw [if_neg pt]
 ·by_cases pt:j=a
  ·rw [if_pos pt,pt]
  ·rw [if_neg pt]
theorem E7 {c:Int} (h:0≤c) :cI c 0=c:=by
 unfold cI
 by_cases h0:(0:Int)≥c
 ·rw [decide_eq_true h0,cond_true]
  omega
 ·rw [decide_eq_false h0,cond_false,Int.sub_zero]
theorem HN {c m:Int} (h:0≤c) (hm:0≤m) :0≤cI c m∧cI c m≤c:=by
 unfold cI
 by_cases h0:m≥c
 ·rw [decide_eq_true h0,cond_true]
  omega
 ·rw [decide_eq_false h0,cond_false]
  omega
theorem HO {c m k:Int} (h:0≤c) (hm:0≤m) (hk:0≤k) :cI (cI c m) k=cI c (m+k):=by
 unfold cI
 by_cases h0:m≥c
 ·rw [decide_eq_true h0,cond_true,decide_eq_true (show m+k≥c by omega),cond_true,decide_eq_true (show k≥0 by omega),cond_true]
 ·rw [decide_eq_false h0,cond_false]
  by_cases h1:m+k≥c
  ·rw [decide_eq_true h1,cond_true,decide_eq_true (show k≥c - m by omega),cond_true]
  ·rw [decide_eq_false h1,cond_false,decide_eq_false (show ¬ k≥c - m by omega),cond_false]
   omega
def Pz (b:PB) (l:aj) (i:Nat) :St:=zU b.n l i b.dv (acc b.n (b.post (l.take i)).gl b.dj (b.post (l.take i)).res) (sq b.n b.jI) (cells b.n b.mul) (sq b.n (b.post (l.take i)).pos)
def PSE (b:PB) (l:aj) :St:=Du b.n b.dv (acc b.n (b.post l).gl b.dj (b.post l).res) (sq b.n b.jI) (cells b.n b.mul) (sq b.n (b.post l).pos)
def HP (sp:FuncId→Option aR) (lsp:Nat→Option bK) :Prop:= ∀{n:Nat},3≤n∧n≤6→ ∀(L m:Nat) (l:aj) (i:Nat) (x y z u:DV) (A P:aj) (b q:Nat→Nat→Int) (k:aX),
  LB tab sp lsp L (m+4) h440 nq (zU n l i [x,y,z,u] A (sq n b) P (sq n q)) k=Dv n l i [x,y,z,u] A (sq n b) P (sq n q) k
theorem PA {sp:FuncId→Option aR} {lsp:Nat→Option bK} (H:HP sp lsp) {b:PB} (hb:b.ok) (L m:Nat) {l:aj} (hl:l.length≤1000) (hp: ∀e∈l,PO b.n e) {i:Nat} (hi:i < l.length) (k:aX) :
  LB tab sp lsp L (m+4) h440 nq (Pz b l i) k=k .bC (Pz b l (i+1)):=by
 obtain ⟨n,gl,dj,res,mul,jI,pos⟩:=b
 have ID:=hb.ca
 have hcq:=hb.cq
 have h36:3≤n∧n≤6:=⟨hb.n3,hb.n6⟩
 clear hb
 simp only at ID hcq hp
 unfold Pz PB.post
 simp only
 refine (H h36 L m l i _ _ _ _ _ _ _ _ k).trans ?_
 unfold Dv
 have hP:=hp _ (List.getElem_mem hi)
 have hb: ∀φ:aw→Int,(∀e,PO n e→ -1099511627776≤φ e∧φ e≤1099511627776)→ -1099511627776000≤az φ (l.take i)∧az φ (l.take i)≤1099511627776000:=fun φ hφ=>by
  have :=jj (l:=l.take i) (φ:=φ) (B:=1099511627776) fun e he=>hφ e (hp e (List.mem_of_mem_take he))
  have hlen:(l.take i).length≤1000:=by rw [List.length_take]; omega
  omega
 have bM:=fun j=>hb (dM j) fun e he=>he.dM j
 have bS:=fun j=>hb (dS j) fun e he=>by have :=he.dS j; omega
 have bS0: ∀j,0≤az (dS j) (l.take i):=fun j=>by
  have h0: ∀m:aj,(∀e∈m,PO n e)→0≤az (dS j) m:=fun m=>by
   induction m with
   | nil=>intro _; exact Int.le_refl 0
   | cons a t ih=>
    intro h
    have h1:=(h a (by simp)).dS j
    have h2:=ih fun e he=>h e (List.mem_cons.2 (.inr he))
    simp only [az]
    omega
  exact h0 _ fun e he=>hp e (List.mem_of_mem_take he)
 have bQ:=fun f t=>hb (dQ f t) fun e he=>he.dQ f t
 rw [cr hi,cond_true,gZ hi,hP.z,cond_true,a8 (by omega)]
 generalize he:l[i]=e at *
 obtain ⟨f,hf⟩ : ∃f:Nat,pF e=(f:Nat):=⟨(pF e).toNat,by have :=hP.f0; omega⟩
 obtain ⟨t,ht⟩ : ∃t:Nat,pT e=(t:Nat):=⟨(pT e).toNat,by have :=hP.t0; omega⟩
 have hU:f < n:=by have :=hP.f1; omega
 have r6:t < n:=by have :=hP.t1; omega
 have cu:f≠t:=by have :=hP.ne; omega
 have Rq:=hP.a0
 have ha1:=hP.a1
 have tk: ∀φ:aw→Int,az φ (l.take (i+1))=az φ (l.take i)+φ e:=fun φ=>by rw [j5 hi,he]
 have hM: ∀j,dM j e=(if t=j then pA e else 0) - (if f=j then pA e else 0):=fun j=>by
  unfold dM
  rw [hf,ht]
  simp only [Int.natCast_inj]
 have hQ: ∀a c,dQ a c e=(if a=f∧c=t then pA e else 0) - (if a=t∧c=f then pA e else 0):=fun a c=>by
  unfold dQ
  rw [hf,ht]
  have q1:(((f:Nat) :Int)=(a:Nat)∧((t:Nat) :Int)=(c:Nat))↔(a=f∧c=t):=by omega
  have q2:(((f:Nat) :Int)=(c:Nat)∧((t:Nat) :Int)=(a:Nat))↔(a=t∧c=f):=by omega
  simp only [q1,q2]
 have b1:=bM f
 have b2:=bM t
 have b3:=bQ f t
 have b4:=bQ t f
 have a1:=ID f hU
 have a2:=ID t r6
 have q3:=hcq f t hU r6
 have q4:=hcq t f r6 hU
 unfold zx at a1 a2
 rw [hf,ht]
 rw [decide_eq_true (show (0:Int)≤((f:Nat) :Int) by omega),decide_eq_true (show ((f:Nat) :Int) < (n:Int) by omega),decide_eq_true (show (0:Int)≤((t:Nat) :Int) by omega),decide_eq_true (show ((t:Nat) :Int) < (n:Int) by omega)]
 simp only [cond_true,Int.toNat_natCast,Nat.zero_add]
 rw [zW (h:=fun x=>x - pA e) rfl hU (by omega) (by omega),zW (h:=fun x=>x+pA e) rfl r6 (by rw [if_neg (fun h=>cu h.symm)]; omega) (by rw [if_neg (fun h=>cu h.symm)]; omega)]
 have eA:(fun j=>if j=t then (if t=f then gl f+az (dM f) (l.take i) - pA e else gl t+az (dM t) (l.take i))+pA e else if j=f then gl f+az (dM f) (l.take i) - pA e else gl j+az (dM j) (l.take i))=fun j=>gl j+az (dM j) (l.take (i+1)):=by
  funext j
  rw [tk,hM,if_neg (fun h:t=f=>cu h.symm)]
  by_cases c1:j=t
  ·subst c1
   rw [if_pos rfl,if_pos rfl,if_neg cu]
   omega
  ·rw [if_neg c1,if_neg (show ¬ t=j from fun h=>c1 h.symm)]
   by_cases c2:j=f
   ·subst c2
    rw [if_pos rfl,if_pos rfl]
    omega
   ·rw [if_neg c2,if_neg (show ¬ f=j from fun h=>c2 h.symm)]
    omega
 rw [eA]
 have eQ:(sq n fun f t=>pos f t+az (dQ f t) (l.take (i+1)))=sq n fun a=>if a=t then (fun c=>if c=f then (if t=f then (fun j=>if j=t then pos f t+az (dQ f t) (l.take i)+pA e else pos f j+az (dQ f j) (l.take i)) else (fun j=>pos t j+az (dQ t j) (l.take i))) f - pA e else (if t=f then (fun j=>if j=t then pos f t+az (dQ f t) (l.take i)+pA e else pos f j+az (dQ f j) (l.take i)) else (fun j=>pos t j+az (dQ t j) (l.take i))) c) else if a=f then (fun c=>if c=t then pos f t+az (dQ f t) (l.take i)+pA e else pos f c+az (dQ f c) (l.take i)) else fun c=>pos a c+az (dQ a c) (l.take i):=by
  refine xx fun a c ha hc=> ?_
  rw [tk,hQ,if_neg (fun h:t=f=>cu h.symm)]
  by_cases c1:a=t
  ·subst c1
   rw [if_pos rfl,if_neg (by omega)]
   by_cases c2:c=f
   ·subst c2
    rw [if_pos ⟨rfl,rfl⟩]
    simp only [if_true]
    omega
   ·rw [if_neg (by omega)]
    simp only [if_neg c2]
    omega
  ·rw [if_neg c1,if_neg (fun h:a=t∧c=f=>c1 h.1)]
   by_cases c2:a=f
   ·subst c2
    rw [if_pos rfl]
    by_cases c3:c=t
    ·subst c3
     rw [if_pos ⟨rfl,rfl⟩]
     simp only [if_true]
     omega
    ·rw [if_neg (by omega)]
     simp only [if_neg c3]
     omega
   ·rw [if_neg c2,if_neg (by omega)]
    omega
 have Oz: -9223372036854775808≤(if t=f then (fun j=>if j=t then pos f t+az (dQ f t) (l.take i)+pA e else pos f j+az (dQ f j) (l.take i)) else (fun j=>pos t j+az (dQ t j) (l.take i))) f - pA e∧(if t=f then (fun j=>if j=t then pos f t+az (dQ f t) (l.take i)+pA e else pos f j+az (dQ f j) (l.take i)) else (fun j=>pos t j+az (dQ t j) (l.take i))) f - pA e≤9223372036854775807:=by
  rw [if_neg (fun h=>cu h.symm)]
  omega
 have last: ∀A3:aj,(ml n 0 f fun f'=>jJ (fun x=>x+pA e) n (uN (sq n fun f t=>pos f t+az (dQ f t) (l.take i)) f') (t:Int) fun Qf=>
   ml n 0 t fun t'=>jJ (fun x=>x - pA e) n (uN (na (sq n fun f t=>pos f t+az (dQ f t) (l.take i)) f' Qf) t') (f:Int) fun Qt=>
    k .bC (zU n l ((i+1:Nat) :Int) (PB.dv ⟨n,gl,dj,res,mul,jI,pos⟩) A3 (sq n jI) (cells n mul) (na (na (sq n fun f t=>pos f t+az (dQ f t) (l.take i)) f' Qf) t' Qt)))=
   k .bC (zU n l ((i+1:Nat) :Int) (PB.dv ⟨n,gl,dj,res,mul,jI,pos⟩) A3 (sq n jI) (cells n mul) (sq n fun f t=>pos f t+az (dQ f t) (l.take (i+1)))):=fun A3=>by
  rw [mq hU,Nat.zero_add,xv _ hU,gg (h:=fun x=>x+pA e) rfl r6 (by omega) (by omega),mq r6,Nat.zero_add,xw _ _ hU,xv _ r6,
   gg (h:=fun x=>x - pA e) rfl hU Oz.1 Oz.2,xw _ _ r6,eQ]
 have eS: ∀j,j < n→cI (res j) (az (dS j) (l.take (i+1)))=cond (pC e !=3) (if j=f then cI (cI (res f) (az (dS f) (l.take i))) (pA e) else cI (res j) (az (dS j) (l.take i))) (cI (res j) (az (dS j) (l.take i))):=fun j hj=>by
  have a3:=ID j hj
  unfold zx at a3
  rw [tk]
  cases hc:(pC e !=3) with
  | true=>
   have gF:pC e≠3:=bne_iff_ne.1 hc
   have hS:dS j e=if f=j then pA e else 0:=by
    unfold dS
    rw [hf]
    simp only [Int.natCast_inj,ne_eq,gF,not_false_eq_true,and_true]
   rw [hS,cond_true]
   by_cases c:j=f
   ·subst c
    rw [if_pos rfl,if_pos rfl,HO (by omega) (bS0 _) (by omega)]
   ·rw [if_neg c,if_neg (fun h=>c h.symm),Int.add_zero]
  | false=>
   have gF:pC e=3:=bne_eq_false_iff_eq.1 hc
   have hS:dS j e=0:=by
    unfold dS
    rw [if_neg (by omega)]
   rw [hS,cond_false,Int.add_zero]
 have eS':(acc n (fun j=>gl j+az (dM j) (l.take (i+1))) dj fun j=>cI (res j) (az (dS j) (l.take (i+1))))=cond (pC e !=3) (acc n (fun j=>gl j+az (dM j) (l.take (i+1))) dj fun j=>if j=f then cI (cI (res f) (az (dS f) (l.take i))) (pA e) else cI (res j) (az (dS j) (l.take i))) (acc n (fun j=>gl j+az (dM j) (l.take (i+1))) dj fun j=>cI (res j) (az (dS j) (l.take i))):=by
  cases hc:(pC e !=3) with
  | true=>
   refine mS fun j hj=>⟨rfl,rfl,?_⟩
   have :=eS j hj
   rw [hc] at this
   exact this
  | false=>
   refine mS fun j hj=>⟨rfl,rfl,?_⟩
   have :=eS j hj
   rw [hc] at this
   exact this
 rw [eS']
 have r1:=HN (c:=res f) (m:=az (dS f) (l.take i)) (by omega) (bS0 f)
 cases hc:(pC e !=3) with
 | true=>
  rw [cond_true,cond_true,HM rfl hU (by omega) (by omega)]
  exact last _
 | false=>
  rw [cond_false,cond_false]
  exact last _
theorem HQ {sp:FuncId→Option aR} {lsp:Nat→Option bK} (H:HP sp lsp) {b:PB} (hb:b.ok) (L m:Nat) {l:aj} (hl:l.length≤1000) (hp: ∀e∈l,PO b.n e) :
  aG (LB tab sp lsp L (m+4) h440 nq) (Pz b l 0) (.ex 0,PSE b l):=by
 refine ez (fun i:Nat=>Pz b l i) (fun i=>l.length - i) (fun i=>i≤l.length) (fun _=>(.ex 0,PSE b l)) (fun i hs=> ?_) 0 (Nat.zero_le _)
 by_cases hi:i < l.length
 ·left
  exact ⟨i+1,hi,by omega,rfl,fun k=>PA H hb L m hl hp hi k⟩
 ·right
  have Aq:i=l.length:=by omega
  subst Aq
  refine ⟨by simp,fun k=> ?_⟩
  unfold Pz PSE
  refine (H ⟨hb.n3,hb.n6⟩ L m l _ _ _ _ _ _ _ _ _ k).trans ?_
  unfold Dv
  rw [aO,cond_false,List.take_length]
  rfl
end Go.Proofs.YtglbgfcegifeeaaGreat.Fz
