/- Rows of payments, as the machine of data bears them. No condition. -/
import Derived.Test.YtglbgfcegifeeaaGreatZ07
set_option linter.unusedVariables false
set_option linter.unusedSimpArgs false
set_option linter.unusedSectionVars false
namespace Go.Proofs.YtglbgfcegifeeaaGreat
open Go Go.Proofs Go.RowKit Vm
def bu:Nat→Option bK:=fun _=>none
abbrev z7:aw:=[.int .i64 0,.int .i64 0,.int .i64 0,.int .i64 0,.int .i64 0,.int .i64 0,.int .i64 0]
def I7 (n:Nat) (x:DV) :Prop:=Sl 7 x∧(∀e∈ar x,aq z7 e=true)∧(ar x).length≤n
def fy (e:aw) :Int:=(aa e 0).ak
def ef (e:aw) :Int:=(aa e 1).ak
def cls (e:aw) :Int:=(aa e 4).ak
def rL (a b:aw) :Bool:=decide (ef a < ef b)||(decide (ef a=ef b)&&decide (cls a≤cls b))
def EO (e:aw) :aw:=[.int .i64 (aa e 0).ak,.int .i64 (aa e 1).ak,.int .i64 (aa e 2).ak,.int .i64 (aa e 3).ak,.int .i64 (aa e 4).ak,.int .i64 (aa e 5).ak,.int .i64 (aa e 6).ak]
theorem jD {c:DV} (h:DV.uv (.int .i64 0) c=true) : ∃n,c= .int .i64 n:=by
 cases c with
 | int q n=>
  simp only [DV.uv,decide_eq_true_eq] at h
  exact ⟨n,by rw [h]⟩
 | _=>simp [DV.uv] at h
theorem fB {e:aw} (h:aq z7 e=true) : ∃a0 a1 a2 a3 a4 a5 a6:Int,e=[.int .i64 a0,.int .i64 a1,.int .i64 a2,.int .i64 a3,.int .i64 a4,.int .i64 a5,.int .i64 a6]:=by
 simp only [aq,Bool.and_eq_true] at h
 obtain ⟨hl,hk⟩:=h
 have hl:e.length=7:=Nat.eq_of_beq_eq_true hl
 match e,hl with
 | [c0,c1,c2,c3,c4,c5,c6],_=>
  simp only [ov,Bool.and_eq_true] at hk
  obtain ⟨h0,h1,h2,h3,h4,h5,h6,_⟩:=hk
  obtain ⟨_,rfl⟩:=jD h0
  obtain ⟨_,rfl⟩:=jD h1
  obtain ⟨_,rfl⟩:=jD h2
  obtain ⟨_,rfl⟩:=jD h3
  obtain ⟨_,rfl⟩:=jD h4
  obtain ⟨_,rfl⟩:=jD h5
  obtain ⟨_,rfl⟩:=jD h6
  exact ⟨_,_,_,_,_,_,_,rfl⟩
theorem XC {e:aw} (h:aq z7 e=true) :[DV.int .i64 (aa e 0).ak,.int .i64 (aa e 1).ak,.int .i64 (aa e 2).ak,.int .i64 (aa e 3).ak,.int .i64 (aa e 4).ak,.int .i64 (aa e 5).ak,.int .i64 (aa e 6).ak]=e:=by
 obtain ⟨a0,a1,a2,a3,a4,a5,a6,rfl⟩:=fB h
 rfl
end Go.Proofs.YtglbgfcegifeeaaGreat
namespace Go.Proofs.YtglbgfcegifeeaaGreat.Fz
open Go Go.Proofs Go.RowKit Vm
def zx (a b c:Int) :Prop:= -4611686018427387904 < a∧a < 4611686018427387904∧0≤b∧b≤2305843009213693952∧0≤c∧c≤2305843009213693952
def tK (n:Int) :Prop:= -9223372036854775808≤n∧n≤9223372036854775807
def cI (c m:Int) :Int:=cond (decide (m≥c)) 0 (c - m)
def L2 (a b c:Int) :Bool:=bif bif bif bif bif decide (a > (-4611686018427387904:Int)) then decide (a < (4611686018427387904:Int)) else false then decide (b≥(0:Int)) else false then decide (b≤(2305843009213693952:Int)) else false then decide (c≥(0:Int)) else false then decide (c≤(2305843009213693952:Int)) else false
theorem Db {a b c:Int} :L2 a b c=true↔zx a b c:=by
 unfold L2 zx
 simp
 omega
abbrev z1:aw:=[.int .i64 0]
abbrev z3:aw:=[.int .i64 0,.int .i64 0,.int .i64 0]
def bk (ac bs ms qs:aj) :aw:=[.ag false 3 ac,.ag false 1 bs,.ag false 1 ms,.ag false 1 qs]
def fe (e:aw) :Int:=(aa e 0).ak
def rw (l:aj) (i:Nat) :aj:=(aa (l[i]?.getD []) 0).pK
def kW (l:aj) (i k:Nat) :Int:=fe ((rw l i)[k]?.getD [])
def lf (l:aj) (i:Nat) :Int:=fe (l[i]?.getD [])
def ka (l:aj) (i k:Nat) :Int:=(aa (l[i]?.getD []) k).ak
def jG (f:Nat→Bool) :Nat→Nat→Bool
 | 0,_=>true
 | c+1,i=>f i&&jG f c (i+1)
def Oq (x:Int) :Bool:=bif decide (x≥(-1:Int)) then decide (x≤(2305843009213693952:Int)) else false
theorem qy {f:St→aX→aH} (st:Nat→St) (q:Nat→Bool) (n:Nat) (out bad:Ex×St) (h1:out.1≠ .bC) (h2:bad.1≠ .bC)
  (jx: ∀i,i < n→ ∀k,f (st i) k=cond (q i) (k .bC (st (i+1))) (k bad.1 bad.2))
  (By: ∀k,f (st n) k=k out.1 out.2) :aG f (st 0) (cond (jG q n 0) out bad):=by
 refine ez st (fun i=>n - i) (fun i=>i≤n∧jG q n 0=jG q (n - i) i) (fun _=>cond (jG q n 0) out bad) (fun i hs=> ?_) 0 ⟨Nat.zero_le _,rfl⟩
 obtain ⟨h3,h4⟩:=hs
 by_cases hi:i < n
 ·obtain ⟨c,hc⟩ : ∃c,n - i=c+1:=⟨n - i - 1,by omega⟩
  have gF:n - (i+1)=c:=by omega
  cases hq:q i with
  | true=>
   left
   refine ⟨i+1,⟨hi,?_⟩,by omega,rfl,fun k=>by rw [jx i hi,hq]; rfl⟩
   rw [h4,hc,gF]
   show (q i&&jG q c (i+1))=_
   rw [hq,Bool.true_and]
  | false=>
   right
   have :jG q n 0=false:=by
    rw [h4,hc]
    show (q i&&jG q c (i+1))=_
    rw [hq,Bool.false_and]
   rw [this]
   exact ⟨h2,fun k=>by rw [jx i hi,hq]; rfl⟩
 ·right
  have Aq:i=n:=by omega
  subst Aq
  have :jG q i 0=true:=by rw [h4,Nat.sub_self]; rfl
  rw [this]
  exact ⟨h1,By⟩
theorem xu {q:Nat→Bool} : ∀{c i:Nat},jG q c i=true→ ∀j,i≤j→j < i+c→q j=true
 | 0,i,_,j,h1,h2=>by omega
 | c+1,i,h,j,h1,h2=>by
  have h':=Bool.and_eq_true_iff.1 (show (q i&&jG q c (i+1))=true from h)
  by_cases hj:j=i
  ·subst hj
   exact h'.1
  ·exact xu h'.2 j (by omega) (by omega)
def Mat (l:aj) :Prop:= ∀e∈l,aq [.af] e=true∧(aa e 0).B9=1∧ ∀r∈(aa e 0).pK,aq z1 r=true∧tK (fe r)
structure TY (ac bs ms qs:aj) :Prop where
 a: ∀e∈ac,aq z3 e=true
 b:Mat bs
 m: ∀e∈ms,aq z1 e=true∧tK (fe e)
 q:Mat qs
theorem iH {l:aj} {i:Nat} (hi:i < l.length) :l[i]?.getD []=l[i]:=by rw [List.getElem?_eq_getElem hi]; rfl
theorem He {l:aj} {i:Nat} (hi:i < l.length) :rw l i=(aa l[i] 0).pK:=by unfold rw; rw [iH hi]
theorem Dc {l:aj} (hM:Mat l) {i j:Nat} (hi:i < l.length) (hj:j < (rw l i).length) (K:aw→aH) :
  (aA l[i]? fun e=>cond (aq [DV.af] e) (cond (decide (1=(aa e 0).B9)) (aA (aa e 0).pK[j]? fun r=>cond (aq [DV.int .i64 0] r) (K r) none) none) none)=K ((rw l i)[j]?.getD []):=by
 obtain ⟨h1,h2,h3⟩:=hM _ (List.getElem_mem hi)
 rw [bf hi,h1,cond_true,decide_eq_true h2.symm,cond_true]
 rw [iH hj]
 have e:=He hi
 have M':j < (aa l[i] 0).pK.length:=by rw [← e]; exact hj
 rw [bf M',(h3 _ (List.getElem_mem M')).1,cond_true]
 congr 1
 simp only [e]
theorem Dd {l:aj} {z:aw} {i:Nat} (hi:i < l.length) (hz: ∀e∈l,aq z e=true) (K:aw→aH) :(aA l[i]? fun e=>cond (aq z e) (K e) none)=K (l[i]?.getD []):=by
 rw [bf hi,hz _ (List.getElem_mem hi),cond_true,iH hi]
abbrev z7:aw:=[.int .i64 0,.int .i64 0,.int .i64 0,.int .i64 0,.int .i64 0,.int .i64 0,.int .i64 0]
def pF (e:aw) :Int:=(aa e 1).ak
def pT (e:aw) :Int:=(aa e 2).ak
def pA (e:aw) :Int:=(aa e 3).ak
def pC (e:aw) :Int:=(aa e 4).ak
def jJ (g:Int→Int) (n:Nat) (X:aj) (i:Int) (K:aj→aH) :aH:=
 cond (decide (0≤i)) (cond (decide (i < (n:Int))) (aA X[0+i.toNat]? fun e6=>aA e6[0]? fun e8=>cond ((DV.int .i64 0).uv e8) (cond (decide (0≤i)) (cond (decide (i < (n:Int))) (aA X[0+i.toNat]? fun tL=>cond (decide (1≤tL.length)) (K (X.set (0+i.toNat) (.int .i64 (IntKind.i64.wrap (g e8.ak))::List.drop 1 tL))) none) none) none) none) none) none
def ml:Nat→Nat→Nat→(Nat→aH)→aH
 | 0,_,_,_=>none
 | c+1,g,i,K=>cond (Nat.beq i 0) (K g) (ml c (g+1) (i - 1) K)
def QS (t:Nat) :Nat→Nat→List aj→List (Nat×Option Ob)
 | 0,_,_=>[]
 | c+1,g,[]=>(t+100000 * g,none)::QS t c (g+1) []
 | c+1,g,Q::Qs=>(t+100000 * g,some (.aC 2 1 Q))::QS t c (g+1) Qs
def zy (n t:Nat) :Nat→Nat→List (List AV)
 | 0,_=>[]
 | c+1,g=>[.ah (t+100000 * g) 1 0 n]::zy n t c (g+1)
def mm (n:Nat) (l:aj) (i:Int) (X Y:aj) (Qs:List aj) :St:=
 St.of [(4,.ptr 4 3 0 0),(5,.ptr 5 3 0 0),(15,.d (.ag false 7 l)),(16,.d (.int .i64 (l.length:Int))),(17,.d (.int .i64 i))]
  ((9,some (.aC 2 1 X))::(11,some (.aC 2 1 Y))::(13,none)::(100013,some (.mix 29 1 (zy n 13 n 2)))::(QS 13 6 2 Qs++[(4,some (.aC 157 3 [[.af,.af,.af]])),(5,some (.mix 157 3 [[.ah 9 1 0 n,.ah 11 1 0 n,.ah 100013 1 0 n]]))]))
def tM (n:Nat) (X Y:aj) (Qs:List aj) :St:=
 St.of [(4,.ptr 4 3 0 0),(5,.ptr 5 3 0 0)]
  ((9,some (.aC 2 1 X))::(11,some (.aC 2 1 Y))::(13,none)::(100013,some (.mix 29 1 (zy n 13 n 2)))::(QS 13 6 2 Qs++[(4,some (.aC 157 3 [[.af,.af,.af]])),(5,some (.mix 157 3 [[.ah 9 1 0 n,.ah 11 1 0 n,.ah 100013 1 0 n]]))]))
def na (Qs:List aj) (f:Nat) (Q:aj) :List aj:=Qs.set f Q
def uN (Qs:List aj) (f:Nat) :aj:=Qs[f]?.getD []
def pq (n:Nat) (l:aj) (i:Int) (X Y:aj) (Qs:List aj) (k:aX) :aH:=
 cond (decide (i < (l.length:Int))) (aA l[i.toNat]? fun e=>cond (aq z7 e)
  (jJ (fun x=>x - pA e) n X (pF e) fun X1=>jJ (fun x=>x+pA e) n X1 (pT e) fun X2=>
   cond (decide (0≤pF e)) (cond (decide (pF e < (n:Int))) (ml n 0 (0+ (pF e).toNat) fun f=>
    jJ (fun x=>x+pA e) n (uN Qs f) (pT e) fun Qf=>
    cond (decide (0≤pT e)) (cond (decide (pT e < (n:Int))) (ml n 0 (0+ (pT e).toNat) fun t=>
     jJ (fun x=>x - pA e) n (uN (na Qs f Qf) t) (pF e) fun Qt=>
      cond (pC e !=3)
       (jJ (fun x=>x+pA e) n Y (pF e) fun Y2=>k .bC (mm n l (IntKind.i64.wrap (i+1)) X2 Y2 (na (na Qs f Qf) t Qt)))
       (k .bC (mm n l (IntKind.i64.wrap (i+1)) X2 Y (na (na Qs f Qf) t Qt)))) none) none) none) none) none)
 (k (.ex 0) (tM n X Y Qs))
def cells (n:Nat) (g:Nat→Int) :aj:=(List.range n).map fun j=>[.int .i64 (g j)]
def az (φ:aw→Int) :aj→Int
 | []=>0
 | e::l=>φ e+az φ l
def dM (j:Nat) (e:aw) :Int:=(if pT e=j then pA e else 0) - (if pF e=j then pA e else 0)
def dS (f:Nat) (e:aw) :Int:=if pF e=f∧pC e≠3 then pA e else 0
def dQ (f t:Nat) (e:aw) :Int:=(if pF e=f∧pT e=t then pA e else 0) - (if pF e=t∧pT e=f then pA e else 0)
def X0 (n:Nat) (l:aj) :aj:=cells n fun j=>az (dM j) l
def Y0 (n:Nat) (l:aj) :aj:=cells n fun j=>az (dS j) l
def Q0 (n:Nat) (l:aj) :List aj:=(List.range n).map fun f=>cells n fun t=>az (dQ f t) l
def adK:bK:=fun st=>match st.env 15,st.aT 9 with
 | .d (.ag _ _ l),some (.aC _ _ X)=> .one (.ex 0) (tM X.length (X0 X.length l) (Y0 X.length l) (Q0 X.length l))
 | _,_=> .no
def lm (k:Nat) :Option bK:=if k=970 then some adK else none
def qz (n:Nat) :List aj:=(List.range n).map fun _=>cells n fun _=>0
def zz (X Y:aj) (Qs:List aj) :DV:= .agg [.sl (.own 2) 1 X,.sl (.own 2) 1 Y,.sl (.cT 29) 1 (Qs.map fun Q=>[.sl (.own 2) 1 Q])]
theorem Ot (L m:Nat) (l X Y A0:aj) (i:Nat) (k:aX) :LB tab aV lm L (m+4) h970 hZ (mm 1 l i X Y [A0]) k=pq 1 l i X Y [A0] k:=by kernel_rfl
theorem XD (m:Nat) (l:aj) :FK tab aV lm 20 (m+12) 97 [.int .i64 1,.ag false 7 l]=aP (aG (LB tab aV lm 20 (m+12) h970 hZ) (mm 1 l 0 (cells 1 fun _=>0) (cells 1 fun _=>0) (qz 1)) (.ex 0,tM 1 (X0 1 l) (Y0 1 l) (Q0 1 l))) (some (zz (X0 1 l) (Y0 1 l) (Q0 1 l))):=by kernel_rfl
theorem Ou (L m:Nat) (l X Y A0 Q1:aj) (i:Nat) (k:aX) :LB tab aV lm L (m+4) h970 hZ (mm 2 l i X Y [A0,Q1]) k=pq 2 l i X Y [A0,Q1] k:=by kernel_rfl
theorem XE (m:Nat) (l:aj) :FK tab aV lm 20 (m+12) 97 [.int .i64 2,.ag false 7 l]=aP (aG (LB tab aV lm 20 (m+12) h970 hZ) (mm 2 l 0 (cells 2 fun _=>0) (cells 2 fun _=>0) (qz 2)) (.ex 0,tM 2 (X0 2 l) (Y0 2 l) (Q0 2 l))) (some (zz (X0 2 l) (Y0 2 l) (Q0 2 l))):=by kernel_rfl
theorem Ov (L m:Nat) (l X Y A0 Q1 Q2:aj) (i:Nat) (k:aX) :LB tab aV lm L (m+4) h970 hZ (mm 3 l i X Y [A0,Q1,Q2]) k=pq 3 l i X Y [A0,Q1,Q2] k:=by kernel_rfl
theorem XG (m:Nat) (l:aj) :FK tab aV lm 20 (m+12) 97 [.int .i64 3,.ag false 7 l]=aP (aG (LB tab aV lm 20 (m+12) h970 hZ) (mm 3 l 0 (cells 3 fun _=>0) (cells 3 fun _=>0) (qz 3)) (.ex 0,tM 3 (X0 3 l) (Y0 3 l) (Q0 3 l))) (some (zz (X0 3 l) (Y0 3 l) (Q0 3 l))):=by kernel_rfl
theorem Ow (L m:Nat) (l X Y A0 Q1 Q2 Q3:aj) (i:Nat) (k:aX) :LB tab aV lm L (m+4) h970 hZ (mm 4 l i X Y [A0,Q1,Q2,Q3]) k=pq 4 l i X Y [A0,Q1,Q2,Q3] k:=by kernel_rfl
theorem XI (m:Nat) (l:aj) :FK tab aV lm 20 (m+12) 97 [.int .i64 4,.ag false 7 l]=aP (aG (LB tab aV lm 20 (m+12) h970 hZ) (mm 4 l 0 (cells 4 fun _=>0) (cells 4 fun _=>0) (qz 4)) (.ex 0,tM 4 (X0 4 l) (Y0 4 l) (Q0 4 l))) (some (zz (X0 4 l) (Y0 4 l) (Q0 4 l))):=by kernel_rfl
theorem Ox (L m:Nat) (l X Y A0 Q1 Q2 Q3 Q4:aj) (i:Nat) (k:aX) :LB tab aV lm L (m+4) h970 hZ (mm 5 l i X Y [A0,Q1,Q2,Q3,Q4]) k=pq 5 l i X Y [A0,Q1,Q2,Q3,Q4] k:=by kernel_rfl
theorem XJ (m:Nat) (l:aj) :FK tab aV lm 20 (m+12) 97 [.int .i64 5,.ag false 7 l]=aP (aG (LB tab aV lm 20 (m+12) h970 hZ) (mm 5 l 0 (cells 5 fun _=>0) (cells 5 fun _=>0) (qz 5)) (.ex 0,tM 5 (X0 5 l) (Y0 5 l) (Q0 5 l))) (some (zz (X0 5 l) (Y0 5 l) (Q0 5 l))):=by kernel_rfl
theorem Oy (L m:Nat) (l X Y A0 Q1 Q2 Q3 Q4 Q5:aj) (i:Nat) (k:aX) :LB tab aV lm L (m+4) h970 hZ (mm 6 l i X Y [A0,Q1,Q2,Q3,Q4,Q5]) k=pq 6 l i X Y [A0,Q1,Q2,Q3,Q4,Q5] k:=by kernel_rfl
theorem XK (m:Nat) (l:aj) :FK tab aV lm 20 (m+12) 97 [.int .i64 6,.ag false 7 l]=aP (aG (LB tab aV lm 20 (m+12) h970 hZ) (mm 6 l 0 (cells 6 fun _=>0) (cells 6 fun _=>0) (qz 6)) (.ex 0,tM 6 (X0 6 l) (Y0 6 l) (Q0 6 l))) (some (zz (X0 6 l) (Y0 6 l) (Q0 6 l))):=by kernel_rfl
theorem XL {n:Nat} (h1:1≤n) (h6:n≤6) (L m:Nat) (l X Y:aj) {Qs:List aj} (hq:Qs.length=n) (i:Nat) (k:aX) :LB tab aV lm L (m+4) h970 hZ (mm n l i X Y Qs) k=pq n l i X Y Qs k:=by
 match n,Qs,hq,h6 with
 | 1,[a],_,_=>exact Ot L m l X Y a i k
 | 2,[a,b],_,_=>exact Ou L m l X Y a b i k
 | 3,[a,b,c],_,_=>exact Ov L m l X Y a b c i k
 | 4,[a,b,c,d],_,_=>exact Ow L m l X Y a b c d i k
 | 5,[a,b,c,d,e],_,_=>exact Ox L m l X Y a b c d e i k
 | 6,[a,b,c,d,e,f],_,_=>exact Oy L m l X Y a b c d e f i k
 | 0,_,_,_=>omega
 | c+7,_,_,h=>omega
theorem t29 {n:Nat} (h1:1≤n) (h6:n≤6) (m:Nat) (l:aj) :FK tab aV lm 20 (m+12) 97 [.int .i64 (n:Nat),.ag false 7 l]=aP (aG (LB tab aV lm 20 (m+12) h970 hZ) (mm n l 0 (cells n fun _=>0) (cells n fun _=>0) (qz n)) (.ex 0,tM n (X0 n l) (Y0 n l) (Q0 n l))) (some (zz (X0 n l) (Y0 n l) (Q0 n l))):=by
 obtain ⟨n,rfl⟩ : ∃c,n=c+1:=⟨n - 1,by omega⟩
 match n,h6 with
 | 0,_=>exact XD m l
 | 1,_=>exact XE m l
 | 2,_=>exact XG m l
 | 3,_=>exact XI m l
 | 4,_=>exact XJ m l
 | 5,_=>exact XK m l
 | c+6,h=>omega
theorem mo (φ:aw→Int) (a b:aj) :az φ (a++b)=az φ a+az φ b:=by
 induction a with
 | nil=>simp [az]
 | cons x a ih=>
  simp only [List.cons_append,az,ih]
  omega
theorem j5 {φ:aw→Int} {l:aj} {i:Nat} (hi:i < l.length) :az φ (l.take (i+1))=az φ (l.take i)+φ l[i]:=by
 rw [List.take_succ_eq_append_getElem hi,mo]
 simp [az]
theorem jj {φ:aw→Int} {B:Int} : ∀{l:aj},(∀e∈l,-B≤φ e∧φ e≤B)→ -(B * (l.length:Int))≤az φ l∧az φ l≤B * (l.length:Int)
 | [],_=>by simp [az]
 | e::l,h=>by
  have h1:=h e (by simp)
  have h2:=jj fun r hr=>h r (List.mem_cons.2 (.inr hr))
  simp only [az,List.length_cons]
  rw [show (((l.length+1:Nat)) :Int)=(l.length:Int)+1 by omega,Int.mul_add,Int.mul_one]
  omega
structure PO (n:Nat) (e:aw) :Prop where
 z:aq z7 e=true
 f0:0≤pF e
 f1:pF e < n
 t0:0≤pT e
 t1:pT e < n
 ne:pF e≠pT e
 a0:1≤pA e
 a1:pA e≤1099511627776
 c0:1≤pC e
 c1:pC e≤3
theorem PO.dM {n:Nat} {e:aw} (h:PO n e) (j:Nat) : -1099511627776≤dM j e∧dM j e≤1099511627776:=by
 obtain ⟨_,_,_,_,_,h1,h2,h3,_,_⟩:=h
 unfold Go.Proofs.YtglbgfcegifeeaaGreat.Fz.dM
 split<;>split<;>omega
theorem PO.dS {n:Nat} {e:aw} (h:PO n e) (j:Nat) :0≤dS j e∧dS j e≤1099511627776:=by
 obtain ⟨_,_,_,_,_,h1,h2,h3,_,_⟩:=h
 unfold Go.Proofs.YtglbgfcegifeeaaGreat.Fz.dS
 split<;>omega
theorem PO.dQ {n:Nat} {e:aw} (h:PO n e) (j k:Nat) : -1099511627776≤dQ j k e∧dQ j k e≤1099511627776:=by
 obtain ⟨_,_,_,_,_,h1,h2,h3,_,_⟩:=h
 unfold Go.Proofs.YtglbgfcegifeeaaGreat.Fz.dQ
 split<;>split<;>omega
theorem cM (n:Nat) (g:Nat→Int) :(cells n g).length=n:=by simp [cells]
theorem cW {n:Nat} (g:Nat→Int) {a:Nat} (h:a < n) :(cells n g)[a]? =some [.int .i64 (g a)]:=by
 unfold cells
 rw [List.getElem?_map,List.getElem?_range h]
 rfl
theorem gW {n:Nat} {g h:Nat→Int} (e: ∀j,j < n→g j=h j) :cells n g=cells n h:=by
 unfold cells
 exact List.map_congr_left fun j hj=>by rw [e j (List.mem_range.1 hj)]
theorem vY {n:Nat} (g:Nat→Int) {a:Nat} (v:Int) (h:a < n) :(cells n g).set a [.int .i64 v]=cells n fun j=>if j=a then v else g j:=by
 refine List.ext_getElem? fun j=> ?_
 by_cases hj:j < n
 ·rw [cW _ hj]
  by_cases pt:j=a
  ·subst pt
   rw [List.getElem?_set_self (by rw [cM]; exact hj),if_pos rfl]
  ·rw [List.getElem?_set_ne (fun h=>pt h.symm),cW _ hj,if_neg pt]
 ·rw [List.getElem?_eq_none (by rw [List.length_set,cM]; omega),List.getElem?_eq_none (by rw [cM]; omega)]
theorem gg {h:Int→Int} {n:Nat} {g:Nat→Int} {i:Int} {a:Nat} (hi:i=(a:Nat)) (ha:a < n) (h1: -9223372036854775808≤h (g a)) (h2:h (g a)≤9223372036854775807) (K:aj→aH) :
  jJ h n (cells n g) i K=K (cells n fun j=>if j=a then h (g a) else g j):=by
 subst hi
 unfold jJ
 rw [decide_eq_true (by omega),cond_true,decide_eq_true (show ((a:Nat) :Int) < (n:Int) by omega),cond_true,Int.toNat_natCast,Nat.zero_add,cW g ha]
 simp only [dW,List.getElem?_cons_zero,cond_true,List.length_cons,List.length_nil,decide_true,Nat.zero_add,Nat.le_refl,xn,List.drop_succ_cons,List.drop_zero]
 rw [show ((DV.int .i64 0).uv (.int .i64 (g a)))=true from rfl,cond_true,bx h1 h2,vY g _ ha]
theorem mq {K:Nat→aH} : ∀{c g a:Nat},a < c→ml c g a K=K (g+a)
 | 0,_,_,h=>by omega
 | c+1,g,0,_=>rfl
 | c+1,g,a+1,h=>by
  show cond (Nat.beq (a+1) 0) (K g) (ml c (g+1) (a+1 - 1) K)=_
  rw [show Nat.beq (a+1) 0=false from rfl,cond_false,Nat.add_sub_cancel,mq (by omega)]
  congr 1
  omega
def sq (n:Nat) (G:Nat→Nat→Int) :List aj:=(List.range n).map fun f=>cells n (G f)
theorem mr (n:Nat) (G:Nat→Nat→Int) :(sq n G).length=n:=by simp [sq]
theorem zA {n:Nat} (G:Nat→Nat→Int) {a:Nat} (h:a < n) :(sq n G)[a]? =some (cells n (G a)):=by
 unfold sq
 rw [List.getElem?_map,List.getElem?_range h]
 rfl
theorem xv {n:Nat} (G:Nat→Nat→Int) {a:Nat} (h:a < n) :uN (sq n G) a=cells n (G a):=by
 unfold uN
 rw [zA G h]
 rfl
theorem xw {n:Nat} (G:Nat→Nat→Int) {a:Nat} (g:Nat→Int) (h:a < n) :na (sq n G) a (cells n g)=sq n fun f=>if f=a then g else G f:=by
 unfold na
 refine List.ext_getElem? fun j=> ?_
 by_cases hj:j < n
 ·rw [zA _ hj]
  by_cases pt:j=a
  ·subst pt
   rw [List.getElem?_set_self (by rw [mr]; exact hj),if_pos rfl]
  ·rw [List.getElem?_set_ne (fun h=>pt h.symm),zA _ hj,if_neg pt]
 ·rw [List.getElem?_eq_none (by rw [List.length_set,mr]; omega),List.getElem?_eq_none (by rw [mr]; omega)]
theorem xx {n:Nat} {G H:Nat→Nat→Int} (e: ∀f t,f < n→t < n→G f t=H f t) :sq n G=sq n H:=by
 unfold sq
 exact List.map_congr_left fun j hj=>gW fun t ht=>e j t (List.mem_range.1 hj) ht
def SI (n:Nat) (l:aj) (i:Nat) :St:=mm n l i (X0 n (l.take i)) (Y0 n (l.take i)) (sq n fun f t=>az (dQ f t) (l.take i))
theorem Hf {n:Nat} (h1:1≤n) (h6:n≤6) (L m:Nat) {l:aj} (hl:l.length≤1000) (hp: ∀e∈l,PO n e) {i:Nat} (hi:i < l.length) (k:aX) :
  LB tab aV lm L (m+4) h970 hZ (SI n l i) k=k .bC (SI n l (i+1)):=by
 unfold SI
 rw [XL h1 h6 L m l _ _ (mr n _) i k]
 unfold pq
 have hP:=hp _ (List.getElem_mem hi)
 have hb: ∀φ:aw→Int,(∀e,PO n e→ -1099511627776≤φ e∧φ e≤1099511627776)→ -1099511627776000≤az φ (l.take i)∧az φ (l.take i)≤1099511627776000:=fun φ hφ=>by
  have :=jj (l:=l.take i) (φ:=φ) (B:=1099511627776) fun e he=>hφ e (hp e (List.mem_of_mem_take he))
  have hlen:(l.take i).length≤1000:=by rw [List.length_take]; omega
  omega
 have bM:=fun j=>hb (dM j) fun e he=>he.dM j
 have bS:=fun j=>hb (dS j) fun e he=>by have :=he.dS j; omega
 have bQ:=fun f t=>hb (dQ f t) fun e he=>he.dQ f t
 rw [cr hi,cond_true,gZ hi,hP.z,cond_true,a8 (by omega)]
 generalize he:l[i]=e at *
 obtain ⟨f,hf⟩ : ∃f:Nat,pF e=(f:Nat):=⟨(pF e).toNat,by have :=hP.f0; omega⟩
 obtain ⟨t,ht⟩ : ∃t:Nat,pT e=(t:Nat):=⟨(pT e).toNat,by have :=hP.t0; omega⟩
 have hU:f < n:=by have :=hP.f1; omega
 have r6:t < n:=by have :=hP.t1; omega
 have cu:f≠t:=by have :=hP.ne; omega
 have Rq:=hP.a0
 have ha1:=hP.a1
 have tk: ∀φ:aw→Int,az φ (l.take (i+1))=az φ (l.take i)+φ e:=fun φ=>by rw [j5 hi,he]
 have eX:X0 n (l.take (i+1))=cells n fun j=>if j=t then (if t=f then az (dM f) (l.take i) - pA e else az (dM t) (l.take i))+pA e else if j=f then az (dM f) (l.take i) - pA e else az (dM j) (l.take i):=by
  unfold X0
  refine gW fun j hj=> ?_
  rw [tk,if_neg (fun h:t=f=>cu h.symm)]
  have hM:dM j e=(if t=j then pA e else 0) - (if f=j then pA e else 0):=by
   unfold dM
   rw [hf,ht]
   simp only [Int.natCast_inj]
  rw [hM]
  by_cases c1:j=t
  ·rw [if_pos c1.symm,if_pos c1,if_neg (show ¬ f=j by omega),c1]
   omega
  ·rw [if_neg c1,if_neg (fun h=>c1 h.symm)]
   by_cases c2:j=f
   ·rw [if_pos c2.symm,if_pos c2,c2]
    omega
   ·rw [if_neg c2,if_neg (fun h=>c2 h.symm)]
    omega
 have eQ:(sq n fun f t=>az (dQ f t) (l.take (i+1)))=sq n fun a=>if a=t then (fun b=>if b=f then (if t=f then (fun j=>if j=t then az (dQ f t) (l.take i)+pA e else az (dQ f j) (l.take i)) else (fun j=>az (dQ t j) (l.take i))) f - pA e else (if t=f then (fun j=>if j=t then az (dQ f t) (l.take i)+pA e else az (dQ f j) (l.take i)) else (fun j=>az (dQ t j) (l.take i))) b) else if a=f then (fun b=>if b=t then az (dQ f t) (l.take i)+pA e else az (dQ f b) (l.take i)) else fun b=>az (dQ a b) (l.take i):=by
  refine xx fun a b ha hb=> ?_
  rw [tk,if_neg (fun h:t=f=>cu h.symm)]
  have hQ:dQ a b e=(if a=f∧b=t then pA e else 0) - (if a=t∧b=f then pA e else 0):=by
   unfold dQ
   rw [hf,ht]
   have q1:(((f:Nat) :Int)=(a:Nat)∧((t:Nat) :Int)=(b:Nat))↔(a=f∧b=t):=by omega
   have q2:(((f:Nat) :Int)=(b:Nat)∧((t:Nat) :Int)=(a:Nat))↔(a=t∧b=f):=by omega
   simp only [q1,q2]
  rw [hQ]
  by_cases c1:a=t
  ·subst c1
   rw [if_pos rfl,if_neg (by omega)]
   by_cases c2:b=f
   ·subst c2
    rw [if_pos ⟨rfl,rfl⟩]
    simp only [if_true]
    omega
   ·rw [if_neg (by omega)]
    simp only [if_neg c2]
    omega
  ·rw [if_neg c1,if_neg (fun h:a=t∧b=f=>c1 h.1)]
   by_cases c2:a=f
   ·subst c2
    rw [if_pos rfl]
    by_cases c3:b=t
    ·subst c3
     rw [if_pos ⟨rfl,rfl⟩]
     simp only [if_true]
     omega
    ·rw [if_neg (by omega)]
     simp only [if_neg c3]
     omega
   ·rw [if_neg c2,if_neg (by omega)]
    omega
 have b1:=bM f
 have b2:=bM t
 have b3:=bQ f t
 have b4:=bQ t f
 have b5:=bS f
 rw [hf,ht]
 unfold X0
 have w1: ∀x:Int,-1099511627776000≤x→x≤1099511627776000→ -9223372036854775808≤x - pA e∧x - pA e≤9223372036854775807∧ -9223372036854775808≤x+pA e∧x+pA e≤9223372036854775807:=fun x h1 h2=>by omega
 rw [gg rfl hU (w1 _ b1.1 b1.2).1 (w1 _ b1.1 b1.2).2.1]
 have b2': -1099511627776000≤(if t=f then az (dM f) (l.take i) - pA e else az (dM t) (l.take i))∧(if t=f then az (dM f) (l.take i) - pA e else az (dM t) (l.take i))≤1099511627776000:=by
  rw [if_neg (fun h=>cu h.symm)]
  exact b2
 rw [gg (h:=fun x=>x+pA e) rfl r6 (w1 _ b2'.1 b2'.2).2.2.1 (w1 _ b2'.1 b2'.2).2.2.2]
 rw [decide_eq_true (show (0:Int)≤((f:Nat) :Int) by omega),cond_true,decide_eq_true (show ((f:Nat) :Int) < (n:Int) by omega),cond_true,Int.toNat_natCast,Nat.zero_add,mq hU,Nat.zero_add,xv _ hU]
 rw [gg (h:=fun x=>x+pA e) rfl r6 (w1 _ b3.1 b3.2).2.2.1 (w1 _ b3.1 b3.2).2.2.2]
 rw [decide_eq_true (show (0:Int)≤((t:Nat) :Int) by omega),cond_true,decide_eq_true (show ((t:Nat) :Int) < (n:Int) by omega),cond_true,Int.toNat_natCast,Nat.zero_add,mq r6,Nat.zero_add,xw _ _ hU,xv _ r6]
 have Oz: -1099511627776000≤(if t=f then (fun j=>if j=t then az (dQ f t) (l.take i)+pA e else az (dQ f j) (l.take i)) else (fun j=>az (dQ t j) (l.take i))) f∧(if t=f then (fun j=>if j=t then az (dQ f t) (l.take i)+pA e else az (dQ f j) (l.take i)) else (fun j=>az (dQ t j) (l.take i))) f≤1099511627776000:=by
  rw [if_neg (fun h=>cu h.symm)]
  exact b4
 rw [gg (h:=fun x=>x - pA e) rfl hU (w1 _ Oz.1 Oz.2).1 (w1 _ Oz.1 Oz.2).2.1,xw _ _ r6]
 have eY:Y0 n (l.take (i+1))=cond (pC e !=3) (cells n fun j=>if j=f then az (dS f) (l.take i)+pA e else az (dS j) (l.take i)) (Y0 n (l.take i)):=by
  unfold Y0
  cases hc:(pC e !=3) with
  | true=>
   rw [cond_true]
   have gF:pC e≠3:=bne_iff_ne.1 hc
   refine gW fun j hj=> ?_
   rw [tk]
   have hS:dS j e=if f=j then pA e else 0:=by
    unfold dS
    rw [hf]
    simp only [Int.natCast_inj,ne_eq,gF,not_false_eq_true,and_true]
   rw [hS]
   by_cases c:j=f
   ·rw [if_pos c.symm,if_pos c,c]
   ·rw [if_neg c,if_neg (fun h=>c h.symm)]
    omega
  | false=>
   rw [cond_false]
   have gF:pC e=3:=bne_eq_false_iff_eq.1 hc
   refine gW fun j hj=> ?_
   rw [tk]
   have hS:dS j e=0:=by
    unfold dS
    rw [if_neg (by omega)]
   rw [hS]
   omega
 rw [show (cells n fun j=>az (dM j) (l.take (i+1)))=X0 n (l.take (i+1)) from rfl,eX,eQ,eY]
 cases hc:(pC e !=3) with
 | true=>
  rw [cond_true,cond_true]
  unfold Y0
  rw [gg (h:=fun x=>x+pA e) rfl hU (w1 _ b5.1 b5.2).2.2.1 (w1 _ b5.1 b5.2).2.2.2]
 | false=>rfl
theorem JG {n:Nat} (h1:1≤n) (h6:n≤6) (L m:Nat) {l:aj} (hl:l.length≤1000) (hp: ∀e∈l,PO n e) :
  aG (LB tab aV lm L (m+4) h970 hZ) (SI n l 0) (.ex 0,tM n (X0 n l) (Y0 n l) (Q0 n l)):=by
 refine ez (fun i:Nat=>SI n l i) (fun i=>l.length - i) (fun i=>i≤l.length) (fun _=>(.ex 0,tM n (X0 n l) (Y0 n l) (Q0 n l))) (fun i hs=> ?_) 0 (Nat.zero_le _)
 by_cases hi:i < l.length
 ·left
  exact ⟨i+1,hi,by omega,rfl,fun k=>Hf h1 h6 L m hl hp hi k⟩
 ·right
  have Aq:i=l.length:=by omega
  subst Aq
  refine ⟨by simp,fun k=> ?_⟩
  unfold SI
  rw [XL h1 h6 L m l _ _ (mr n _) _ k]
  unfold pq
  rw [aO,cond_false,List.take_length]
  rfl
def tN:aR where
 D ds:= ∃n x,ds=[.int .i64 ((n:Nat) :Int),x]∧1≤n∧n≤6∧Sl 7 x∧(ar x).length≤1000∧ ∀e∈ar x,PO n e
 val ds:=match ds with | [.int _ n,x]=>some (zz (X0 n.toNat (ar x)) (Y0 n.toNat (ar x)) (Q0 n.toNat (ar x))) | _=>none
theorem Sl.rr {P:Program} {f:FuncId} {sz:Nat} {d x:DV} {r:DV} (hd:pn [d]=true) (hx:Sl sz x) (h:bI P f [d,.ag false sz (ar x)] r) :bI P f [d,x] r:=
 h.args (gY.cons (fj.refl _) (gY.cons hx.le gY.nil)) (by cases d<;>first | rfl | exact hd) (by cases d<;>first | rfl | exact hd)
theorem XN:tN.ok Tryz.prog 97:=fun ds r hD hv=>by
 obtain ⟨n,x,rfl,h1,h6,hx,hl,hp⟩:=hD
 cases hv
 rw [Int.toNat_natCast]
 refine Sl.rr rfl hx ?_
 refine aL (lsp:=lm) a7 aY 20 (0+12) ((t29 h1 h6 0 (ar x)).trans ?_)
 exact au (JG h1 h6 20 (0+8) hl hp)
def cj:aj→Int
 | []=>0
 | e::l=>fe e+cj l
def adL:bK:=fun st=>match st.env 12 with
 | .d (.ag _ _ es)=> .one (.ex 0) (St.of [(5,.d (.int .i64 (cj es)))] [])
 | _=> .no
def adM:bK:=fun st=>match st.env 1,st.env 2 with
 | .d (.int _ i),.d (.aI [.ag _ _ ac,.ag _ _ bs,.ag _ _ ms,.ag _ _ qs] _)=> .one (.ex 0) (St.of [(5,.d (.int .i64 (cj (rw qs i.toNat))))] [])
 | _,_=> .no
def lb (k:Nat) :Option bK:=if k=1580 then some adL else if k=130 then some adM else none
def OA (k:Bool) (sz:Nat) (es:aj) (m i s:Int) :St:=St.of [(5,.d (.int .i64 s)),(12,.d (.ag k sz es)),(13,.d (.int .i64 m)),(14,.d (.int .i64 i))] []
def OB (b:aw) (i:Int) (s j:Int) :St:=St.of [(1,.d (.int .i64 i)),(2,.d (.aI b 0)),(5,.d (.int .i64 s)),(6,.d (.int .i64 j))] [(2,none)]
def Hg:aR where
 D ds:= ∃ac bs ms qs i,ds=[.agg (bk ac bs ms qs),.int .i64 ((i:Nat) :Int)]∧TY ac bs ms qs∧i < qs.length∧(rw qs i).length≤6∧ ∀r∈rw qs i,-72057594037927936 < fe r∧fe r < 72057594037927936
 val ds:=match ds with | [.agg [.ag _ _ ac,.ag _ _ bs,.ag _ _ ms,.ag _ _ qs],.int _ i]=>some (.int .i64 (cj (rw qs i.toNat))) | _=>none
theorem XO (L n:Nat) (kk:Bool) (sz:Nat) (es:aj) (m i:Nat) (s:Int) (k:aX) :LB tab aV lb L (n+4) h1580 xt (OA kk sz es m i s) k=
  (bif decide ((↑i:Int) < (↑m:Int)) then
 bif decide ((1:Nat)=sz) then
 aA es[i]? fun (e2:aw)=>
 bif aq Cd.aB e2 then
 k Ex.bC
 (St.of
 [(5,AV.d (DV.int .i64 (IntKind.i64.wrap (s+ (aa e2 0).ak)))),(12,AV.d (DV.ag kk sz es)),
 ((13:Nat),AV.d (DV.int .i64 (↑m:Int))),(14,AV.d (DV.int .i64 (IntKind.i64.wrap ((↑i:Int)+ (1:Int)))))]
 [])
 else none
 else none
 else k (Ex.ex (0:Nat)) (St.of [(5,AV.d (DV.int .i64 s))] [])):=by kernel_rfl
theorem XQ (L n:Nat) (ac bs ms qs:aj) (i j:Nat) (s:Int) (k:aX) :LB tab aV lb L (n+4) h130 C7 (OB (bk ac bs ms qs) i s j) k=
  (aA qs[i]? fun (e0:aw)=>
 bif aq Cd.bl e0 then
 bif decide ((↑j:Int) < (↑(aa e0 0).pK.length:Int)) then
 aA qs[i]? fun (e4:aw)=>
 bif aq Cd.bl e4 then
 bif decide ((1:Nat)=(aa e4 0).B9) then
 aA (aa e4 0).pK[j]? fun (e8:aw)=>
 bif aq Cd.aB e8 then
 k Ex.bC
 (St.of
 [(1,AV.d (DV.int .i64 (↑i:Int))),
 ((2:Nat),
 AV.d
 (DV.aI [DV.ag false 3 ac,DV.ag false 1 bs,DV.ag false 1 ms,DV.ag false 1 qs] (0:Nat))),
 ((5:Nat),AV.d (DV.int .i64 (IntKind.i64.wrap (s+ (aa e8 0).ak)))),
 ((6:Nat),AV.d (DV.int .i64 (IntKind.i64.wrap ((↑j:Int)+ (1:Int)))))]
 [(2,none)])
 else none
 else none
 else none
 else k (Ex.ex (0:Nat)) (St.of [(5,AV.d (DV.int .i64 s))] [])
 else none):=by kernel_rfl
theorem t38 (L n:Nat) (ac bs ms qs:aj) (i:Nat) :FK tab aV lb L (n+8) 158 [.agg (bk ac bs ms qs),.int .i64 ((i:Nat) :Int)]=
  (aA qs[i]? fun (e0:aw)=>
 bif aq Cd.bl e0 then
 aP
 (aG (LB tab aV lb L (n+ (8:Nat)) h1580 xt)
 (St.of
 [(5,AV.d (DV.int .i64 0)),
 ((12:Nat),AV.d (DV.ag (aa e0 0).slT (aa e0 0).B9 (aa e0 0).pK)),
 ((13:Nat),AV.d (DV.int .i64 (↑(aa e0 0).pK.length:Int))),(14,AV.d (DV.int .i64 0))]
 [])
 (Ex.ex (0:Nat),St.of [(5,AV.d (DV.int .i64 (cj (aa e0 0).pK)))] []))
 (some (DV.int .i64 (cj (aa e0 0).pK)))
 else none):=by kernel_rfl
theorem t43 (L n:Nat) (ac bs ms qs:aj) (i:Nat) :FK tab aV lb L (n+8) 13 [.agg (bk ac bs ms qs),.int .i64 ((i:Nat) :Int)]=
  (aP
 (aG (LB tab aV lb L (n+ (8:Nat)) h130 C7)
 (St.of
 [(1,AV.d (DV.int .i64 (↑i:Int))),
 ((2:Nat),AV.d (DV.aI [DV.ag false 3 ac,DV.ag false 1 bs,DV.ag false 1 ms,DV.ag false 1 qs] (0:Nat))),
 ((5:Nat),AV.d (DV.int .i64 0)),(6,AV.d (DV.int .i64 0))]
 [(2,none)])
 (Ex.ex (0:Nat),St.of [(5,AV.d (DV.int .i64 (cj (rw qs i))))] []))
 (some (DV.int .i64 (cj (rw qs i))))):=by kernel_rfl
structure BK (ac bs ms qs:aj) :Prop where
 t:TY ac bs ms qs
 n1:1≤ac.length
 n6:ac.length≤6
 lb:bs.length=ac.length
 lm:ms.length=ac.length
 lq:qs.length=ac.length
 rb: ∀i,i < ac.length→(rw bs i).length=ac.length
 rq: ∀i,i < ac.length→(rw qs i).length=ac.length
 ca: ∀i,i < ac.length→zx (ka ac i 0) (ka ac i 1) (ka ac i 2)
 cm: ∀i,i < ac.length→ -1≤lf ms i∧lf ms i≤2305843009213693952
 cb: ∀i j,i < ac.length→j < ac.length→ -1≤kW bs i j∧kW bs i j≤2305843009213693952
 cq: ∀i j,i < ac.length→j < ac.length→ -72057594037927936 < kW qs i j∧kW qs i j < 72057594037927936
theorem qA {es:aj} : ∀{i:Nat} (hi:i < es.length),cj (es.take (i+1))=cj (es.take i)+fe es[i]:=fun {i} hi=>by
 have app: ∀a b:aj,cj (a++b)=cj a+cj b:=fun a b=>by
  induction a with
  | nil=>simp [cj]
  | cons x a ih=>
   simp only [List.cons_append,cj,ih]
   omega
 rw [List.take_succ_eq_append_getElem hi,app]
 simp [cj]
theorem kX: ∀{es:aj},(∀r∈es,-72057594037927936 < fe r∧fe r < 72057594037927936)→ -72057594037927936 * (es.length:Int)≤cj es∧cj es≤72057594037927936 * (es.length:Int)
 | [],_=>by simp [cj]
 | e::l,h=>by
  have h1:=h e (by simp)
  have h2:=kX fun r hr=>h r (List.mem_cons.2 (.inr hr))
  simp only [cj,List.length_cons]
  omega
theorem JH (L n:Nat) (kk:Bool) {es:aj} (hz: ∀r∈es,aq z1 r=true) (h6:es.length≤6) (hb: ∀r∈es,-72057594037927936 < fe r∧fe r < 72057594037927936) :
  aG (LB tab aV lb L (n+4) h1580 xt) (OA kk 1 es es.length 0 0) (.ex 0,St.of [(5,.d (.int .i64 (cj es)))] []):=by
 refine ez (fun i:Nat=>OA kk 1 es (es.length:Nat) (i:Nat) (cj (es.take i))) (fun i=>es.length - i) (fun i=>i≤es.length) (fun _=>(.ex 0,St.of [(5,.d (.int .i64 (cj es)))] [])) (fun i hs=> ?_) 0 (Nat.zero_le _)
 by_cases hi:i < es.length
 ·left
  refine ⟨i+1,hi,by omega,rfl,fun k=> ?_⟩
  have XR:=kX (es:=es.take (i+1)) fun r hr=>hb r (List.mem_of_mem_take hr)
  have dZ:(es.take (i+1)).length≤6:=by rw [List.length_take]; omega
  rw [qA hi] at XR ⊢
  rw [XO,cr hi,cond_true,decide_eq_true rfl,cond_true,bf hi,hz _ (List.getElem_mem hi),cond_true,a8 (by omega)]
  rw [show (aa es[i] 0).ak=fe es[i] from rfl,bx (n:=cj (es.take i)+fe es[i]) (by omega) (by omega)]
  rfl
 ·right
  have :i=es.length:=by omega
  subst this
  refine ⟨by simp,fun k=> ?_⟩
  rw [XO,aO,List.take_length]
  rfl
theorem XS:Hg.ok Tryz.prog 158:=fun ds r hD hv=>by
 obtain ⟨ac,bs,ms,qs,i,rfl,hT,hi,h6,hb⟩:=hD
 cases hv
 rw [Int.toNat_natCast]
 obtain ⟨k1,k2,k3⟩:=hT.q _ (List.getElem_mem hi)
 rw [He hi] at h6 hb ⊢
 refine aL (lsp:=lb) a7 aY 20 (0+8) ((t38 20 0 ac bs ms qs i).trans ?_)
 rw [bf hi,k1,cond_true,k2]
 exact au (JH 20 (0+4) _ (fun r hr=>(k3 r hr).1) h6 hb)
theorem JI (L n:Nat) {ac bs ms qs:aj} (hT:TY ac bs ms qs) {i:Nat} (hi:i < qs.length) (h6:(rw qs i).length≤6) (hb: ∀r∈rw qs i,-72057594037927936 < fe r∧fe r < 72057594037927936) :
  aG (LB tab aV lb L (n+4) h130 C7) (OB (bk ac bs ms qs) (i:Nat) 0 0) (.ex 0,St.of [(5,.d (.int .i64 (cj (rw qs i))))] []):=by
 obtain ⟨k1,k2,k3⟩:=hT.q _ (List.getElem_mem hi)
 have e:=He hi
 rw [e] at h6 hb ⊢
 generalize oi:(aa qs[i] 0).pK=es at *
 refine ez (fun j:Nat=>OB (bk ac bs ms qs) (i:Nat) (cj (es.take j)) (j:Nat)) (fun j=>es.length - j) (fun j=>j≤es.length) (fun _=>(.ex 0,St.of [(5,.d (.int .i64 (cj es)))] [])) (fun j hs=> ?_) 0 (Nat.zero_le _)
 by_cases hj:j < es.length
 ·left
  refine ⟨j+1,hj,by omega,rfl,fun k=> ?_⟩
  have XR:=kX (es:=es.take (j+1)) fun r hr=>hb r (List.mem_of_mem_take hr)
  have dZ:(es.take (j+1)).length≤6:=by rw [List.length_take]; omega
  rw [qA hj] at XR ⊢
  rw [XQ]
  simp only [bf hi,k1,k2,oi,cond_true,cr hj,decide_true,bf hj,(k3 _ (List.getElem_mem hj)).1]
  rw [a8 (by omega),show (aa es[j] 0).ak=fe es[j] from rfl,bx (n:=cj (es.take j)+fe es[j]) (by omega) (by omega)]
  rfl
 ·right
  have :j=es.length:=by omega
  subst this
  refine ⟨by simp,fun k=> ?_⟩
  rw [XQ]
  simp only [bf hi,k1,k2,oi,cond_true,aO,cond_false,List.take_length]
theorem XT:Hg.ok Tryz.prog 13:=fun ds r hD hv=>by
 obtain ⟨ac,bs,ms,qs,i,rfl,hT,hi,h6,hb⟩:=hD
 cases hv
 rw [Int.toNat_natCast]
 exact aL (lsp:=lb) a7 aY 20 (0+8) ((t43 20 0 ac bs ms qs i).trans (au (JI 20 (0+4) hT hi h6 hb)))
theorem BK.ru {ac bs ms qs:aj} (h:BK ac bs ms qs) {i:Nat} (hi:i < ac.length) :Hg.D [.agg (bk ac bs ms qs),.int .i64 ((i:Nat) :Int)]∧(-72057594037927936 * 6≤cj (rw qs i)∧cj (rw qs i)≤72057594037927936 * 6):=by
 have hb: ∀r∈rw qs i,-72057594037927936 < fe r∧fe r < 72057594037927936:=fun r hr=>by
  obtain ⟨j,hj,rfl⟩:=List.getElem_of_mem hr
  have :=h.cq i j hi (by rw [h.rq i hi] at hj; exact hj)
  unfold kW at this
  rw [iH hj] at this
  exact this
 have h6:(rw qs i).length≤6:=by rw [h.rq i hi]; exact h.n6
 refine ⟨⟨_,_,_,_,_,rfl,h.t,by rw [h.lq]; exact hi,h6,hb⟩,?_⟩
 have :=kX hb
 omega
def pv (e:aw) :DV:= .agg [.int .i64 (aa e 0).ak,.int .i64 (aa e 1).ak,.int .i64 (aa e 2).ak,.int .i64 (aa e 3).ak,.int .i64 (aa e 4).ak,.int .i64 (aa e 5).ak,.int .i64 (aa e 6).ak]
def cQ (n:Nat) (l:aj) :aj:=(Q0 n l).map fun Q=>[.ag false 1 Q]
def EP (n f t a c:Int) :Bool:=bif bif bif bif bif bif bif bif decide (f≥(0:Int)) then decide (f < n) else false then decide (t≥(0:Int)) else false then decide (t < n) else false then f !=t else false then decide (a≥(1:Int)) else false then decide (a≤(1099511627776:Int)) else false then decide (c≥(1:Int)) else false then decide (c≤(3:Int)) else false
def fS (n:Nat) (e:aw) :Bool:=EP (n:Int) (pF e) (pT e) (pA e) (pC e)
def eC (bs qs Y Q:aj) (i:Nat) (ro b2:Int) (e:aw) :Bool:=pF e==(i:Int)&&((pC e==3&&decide (ro < cI b2 (lf Y i)))||(kW bs i (pT e).toNat != -1&&decide (kW qs i (pT e).toNat+kW Q i (pT e).toNat > kW bs i (pT e).toNat)))
def bW (c:DV) (e:aw) :Bool:=match c with
 | .func g [.aI [.int _ i] _]=>pF e==i
 | .func g [.aI [.ag _ _ ac,.ag _ _ bs,.ag _ _ ms,.ag _ _ qs] _]=> !fS ac.length e
 | .func g [.aI [.int _ i] _,.aI [.int _ b0,.int _ b1,.int _ b2] _,.aI [.sl _ _ X,.sl _ _ Y,.sl _ _ Q] _,.aI [.int _ ro] _,.aI [.ag _ _ ac,.ag _ _ bs,.ag _ _ ms,.ag _ _ qs] _]=>eC bs qs Y Q i.toNat ro b2 e
 | _=>false
def De (i:Int) :DV:= .func 98 [.aI [.int .i64 i] 0]
def QT (b:aw) :DV:= .func 49 [.aI b 0]
def L3 (b:aw) (n:Nat) (l:aj) (i:Int) (b0 b1 b2 ro:Int) :aw:=[.aI [.int .i64 i] 0,.aI [.int .i64 b0,.int .i64 b1,.int .i64 b2] 0,.aI [.sl .ro 1 (X0 n l),.sl .ro 1 (Y0 n l),.sl .ro 1 (cQ n l)] 0,.aI [.int .i64 ro] 0,.aI b 0]
def Hh:aR where
 D ds:= ∃e i,ds=[pv e,.aI [.int .i64 i] 0]
 val ds:=match ds with | [.agg [_,.int _ f,_,_,_,_,_],.aI [.int _ i] _]=>some (.bool (f==i)) | _=>none
def Hi:aR where
 D ds:= ∃e ac bs ms qs,ds=[pv e,.aI (bk ac bs ms qs) 0]
 val ds:=match ds with | [.agg [_,.int _ f,.int _ t,.int _ a,.int _ c,_,_],.aI [.ag _ _ ac,.ag _ _ bs,.ag _ _ ms,.ag _ _ qs] _]=>some (.bool (!EP ac.length f t a c)) | _=>none
def Hj:aR where
 D ds:= ∃e ac bs ms qs l i b0 b1 b2 ro,ds=pv e::L3 (bk ac bs ms qs) ac.length l ((i:Nat) :Int) b0 b1 b2 ro∧BK ac bs ms qs∧i < ac.length∧zx b0 b1 b2∧PO ac.length e∧l.length≤1000∧ ∀e∈l,PO ac.length e
 val ds:=match ds with | [.agg l,.aI [.int _ i] _,.aI [.int _ b0,.int _ b1,.int _ b2] _,.aI [.sl _ _ X,.sl _ _ Y,.sl _ _ Q] _,.aI [.int _ ro] _,.aI [.ag _ _ ac,.ag _ _ bs,.ag _ _ ms,.ag _ _ qs] _]=>some (.bool (eC bs qs Y Q i.toNat ro b2 l)) | _=>none
noncomputable def rM:FuncId→Option aR:=bL 98 Hh (bL 49 Hi (bL 160 Hj aV))
def dN (φ:aw→Bool) :aj→Nat→Int
 | [],_=> -1
 | e::l,i=>cond (φ e) (i:Int) (dN φ l (i+1))
def adN:bK:=fun st=>match st.env 0,st.env 1 with
 | .d (.ag _ _ l),.d c=> .br (l.any (bW c)) (.one .ret (St.of [(4,.d (.int .i64 (dN (bW c) l 0)))] [])) (.one (.ex 0) (St.of [] []))
 | _,_=> .no
def lE (k:Nat) :Option bK:=if k=960 then some adN else none
def ia (l:aj) (c:DV) (i:Int) :St:=St.of [(0,.d (.ag false 7 l)),(1,.d c),(7,.d (.int .i64 (l.length:Int))),(8,.d (.int .i64 i))] []
theorem Df (L n:Nat) (l:aj) (x:Int) (i:Nat) (k:aX) :LB tab rM lE L (n+4) h960 eE (ia l (De x) i) k=
 cond (decide ((i:Int) < (l.length:Int))) (aA l[((i:Nat) :Int).toNat]? fun e=>cond (aq z7 e) (aP (Hh.D [pv e,.aI [.int .i64 x] 0]) (cond (bW (De x) e) (k .ret (St.of [(4,.d (.int .i64 i))] [])) (k .bC (ia l (De x) (IntKind.i64.wrap ((i:Int)+1)))))) none) (k (.ex 0) (St.of [] [])):=by kernel_rfl
theorem Dg (L n:Nat) (l ac bs ms qs:aj) (i:Nat) (k:aX) :LB tab rM lE L (n+4) h960 eE (ia l (QT (bk ac bs ms qs)) i) k=
 cond (decide ((i:Int) < (l.length:Int))) (aA l[((i:Nat) :Int).toNat]? fun e=>cond (aq z7 e) (aP (Hi.D [pv e,.aI (bk ac bs ms qs) 0]) (cond (bW (QT (bk ac bs ms qs)) e) (k .ret (St.of [(4,.d (.int .i64 i))] [])) (k .bC (ia l (QT (bk ac bs ms qs)) (IntKind.i64.wrap ((i:Int)+1)))))) none) (k (.ex 0) (St.of [] [])):=by kernel_rfl
theorem Dh (L n:Nat) (l ac bs ms qs:aj) (m:Nat) (l':aj) (x b0 b1 b2 ro:Int) (i:Nat) (k:aX) :LB tab rM lE L (n+4) h960 eE (ia l (.func 160 (L3 (bk ac bs ms qs) m l' x b0 b1 b2 ro)) i) k=
 cond (decide ((i:Int) < (l.length:Int))) (aA l[((i:Nat) :Int).toNat]? fun e=>cond (aq z7 e) (aP (Hj.D (pv e::L3 (bk ac bs ms qs) m l' x b0 b1 b2 ro)) (cond (bW (.func 160 (L3 (bk ac bs ms qs) m l' x b0 b1 b2 ro)) e) (k .ret (St.of [(4,.d (.int .i64 i))] [])) (k .bC (ia l (.func 160 (L3 (bk ac bs ms qs) m l' x b0 b1 b2 ro)) (IntKind.i64.wrap ((i:Int)+1)))))) none) (k (.ex 0) (St.of [] [])):=by kernel_rfl
theorem t30 (n:Nat) (e:aw) (i:Int) :FK tab aV bu 20 (n+12) 98 [pv e,.aI [.int .i64 i] 0]=
  (some (DV.bool ((aa e 1).ak==i))):=by kernel_rfl
theorem t27 (n:Nat) (e:aw) (ac bs ms qs:aj) :FK tab aV bu 20 (n+12) 49 [pv e,.aI (bk ac bs ms qs) 0]=
  (some
 (DV.bool
 !bif
 bif
 bif
 bif
 bif
 bif
 bif bif decide ((aa e 1).ak≥(0:Int)) then decide ((aa e 1).ak < (↑ac.length:Int)) else false then
 decide ((aa e 2).ak≥(0:Int))
 else false then
 decide ((aa e 2).ak < (↑ac.length:Int))
 else false then
 (aa e 1).ak !=(aa e 2).ak
 else false then
 decide ((aa e 3).ak≥(1:Int))
 else false then
 decide ((aa e 3).ak≤(1099511627776:Int))
 else false then
 decide ((aa e 4).ak≥(1:Int))
 else false then
 decide ((aa e 4).ak≤(3:Int))
 else false)):=by kernel_rfl
theorem t40 (n:Nat) (ac bs ms qs X Y Q:aj) (b0 b1 b2 ro:Int) (e:aw) (i:Nat) :FK tab aV bu 20 (n+12) 160 [pv e,.aI [.int .i64 ((i:Nat) :Int)] 0,.aI [.int .i64 b0,.int .i64 b1,.int .i64 b2] 0,.aI [.sl .ro 1 X,.sl .ro 1 Y,.sl .ro 1 Q] 0,.aI [.int .i64 ro] 0,.aI (bk ac bs ms qs) 0]=
  (bif (aa e 1).ak !=(↑i:Int) then some (DV.bool false)
 else
 aA Y[i]? fun (e1:aw)=>
 bif aq Cd.aB e1 then
 bif
 bif (aa e 4).ak==(3:Int) then
 decide
 (ro < if (0:Int) > IntKind.i64.wrap (b2 - (aa e1 0).ak) then (0:Int) else IntKind.i64.wrap (b2 - (aa e1 0).ak))
 else false then
 some (DV.bool true)
 else
 aA qs[i]? fun (e5:aw)=>
 bif aq Cd.bl e5 then
 bif decide ((1:Nat)=(aa e5 0).B9) then
 bif decide ((0:Int)≤(aa e 2).ak) then
 aA (aa e5 0).pK[(aa e 2).ak.toNat]? fun (rN:aw)=>
 bif aq Cd.aB rN then
 aA Q[i]? fun (tL:aw)=>
 bif aq Cd.bl tL then
 bif decide ((1:Nat)=(aa tL 0).B9) then
 bif decide ((0:Int)≤(aa e 2).ak) then
 aA (aa tL 0).pK[(aa e 2).ak.toNat]? fun (k9:aw)=>
 bif aq Cd.aB k9 then
 aA bs[i]? fun (e21:aw)=>
 bif aq Cd.bl e21 then
 bif decide ((1:Nat)=(aa e21 0).B9) then
 bif decide ((0:Int)≤(aa e 2).ak) then
 aA (aa e21 0).pK[(aa e 2).ak.toNat]? fun (e26:aw)=>
 bif aq Cd.aB e26 then
 some
 (DV.bool
 (bif (aa e26 0).ak !=(-1:Int) then
 decide (IntKind.i64.wrap ((aa rN 0).ak+ (aa k9 0).ak) > (aa e26 0).ak)
 else false))
 else none
 else none
 else none
 else none
 else none
 else none
 else none
 else none
 else none
 else none
 else none
 else none
 else none):=by kernel_rfl
theorem JJ (f:Nat) :decide ((0:Int)≤((f:Nat) :Int))=true:=decide_eq_true (by omega)
theorem t28 (n:Nat) (l:aj) (g:FuncId) (caps:aw) :FK tab rM lE 20 (n+12) 51 [.ag false 7 l,.func g caps]=
 cond (l.any (bW (.func g caps))) (aP (aG (LB tab rM lE 20 (n+11) h960 eE) (ia l (.func g caps) 0) (.ret,St.of [(4,.d (.int .i64 (dN (bW (.func g caps)) l 0)))] [])) (some (.bool (decide (dN (bW (.func g caps)) l 0≥(0:Int))))))
  (aP (aG (LB tab rM lE 20 (n+11) h960 eE) (ia l (.func g caps) 0) (.ex 0,St.of [] [])) (some (.bool false))):=by kernel_rfl
theorem Hk {c m:Int} :(if (0:Int) > c - m then 0 else c - m)=cI c m:=by
 unfold cI
 by_cases h:m≥c
 ·rw [decide_eq_true h]
  simp only [cond_true]
  split<;>omega
 ·rw [decide_eq_false h]
  simp only [cond_false]
  split<;>omega
theorem adQ:Hh.ok Tryz.prog 98:=fun ds r hD hv=>by
 obtain ⟨e,i,rfl⟩:=hD
 cases hv
 exact aL (lsp:=bu) a7 aY 20 (0+12) (t30 0 e i)
theorem adR:Hi.ok Tryz.prog 49:=fun ds r hD hv=>by
 obtain ⟨e,ac,bs,ms,qs,rfl⟩:=hD
 cases hv
 exact aL (lsp:=bu) a7 aY 20 (0+12) (t27 0 e ac bs ms qs)
theorem vZ {n:Nat} (g:Nat→Int) {i:Nat} (h:i < n) :lf (cells n g) i=g i:=by
 unfold lf
 rw [cW g h]
 rfl
theorem XU (n:Nat) (l:aj) :Q0 n l=sq n fun f t=>az (dQ f t) l:=rfl
theorem Hl {n:Nat} (l:aj) {i:Nat} (h:i < n) :(cQ n l)[i]? =some [.ag false 1 (cells n fun t=>az (dQ i t) l)]:=by
 unfold cQ
 rw [List.getElem?_map,XU,zA _ h]
 rfl
theorem XV {n:Nat} (l:aj) {i:Nat} (h:i < n) :rw (cQ n l) i=cells n fun t=>az (dQ i t) l:=by
 unfold rw
 rw [Hl l h]
 rfl
theorem Hm {n:Nat} (l:aj) {i t:Nat} (h:i < n) (ht:t < n) :kW (cQ n l) i t=az (dQ i t) l:=by
 unfold kW
 rw [XV l h,cW _ ht]
 rfl
theorem mR {n:Nat} {l:aj} (hl:l.length≤1000) (hp: ∀e∈l,PO n e) (φ:aw→Int) (hφ: ∀e,PO n e→ -1099511627776≤φ e∧φ e≤1099511627776) : -1099511627776000≤az φ l∧az φ l≤1099511627776000:=by
 have :=jj (l:=l) (φ:=φ) (B:=1099511627776) fun e he=>hφ e (hp e he)
 omega
theorem XW {n:Nat} {l:aj} (hl:l.length≤1000) (hp: ∀e∈l,PO n e) (j:Nat) : -1099511627776000≤az (dM j) l∧az (dM j) l≤1099511627776000:=mR hl hp _ fun e he=>he.dM j
theorem L4 {n:Nat} {l:aj} (hl:l.length≤1000) (hp: ∀e∈l,PO n e) (j k:Nat) : -1099511627776000≤az (dQ j k) l∧az (dQ j k) l≤1099511627776000:=mR hl hp _ fun e he=>he.dQ j k
theorem gh {φ:aw→Int} : ∀{l:aj},(∀e∈l,0≤φ e)→0≤az φ l
 | [],_=>by simp [az]
 | e::l,h=>by
  have h1:=h e (by simp)
  have h2:=gh fun r hr=>h r (List.mem_cons.2 (.inr hr))
  simp only [az]
  omega
theorem XX {n:Nat} {l:aj} (hl:l.length≤1000) (hp: ∀e∈l,PO n e) (j:Nat) :0≤az (dS j) l∧az (dS j) l≤1099511627776000:=
 ⟨gh fun e he=>((hp e he).dS j).1,(mR hl hp _ fun e he=>by have :=he.dS j; omega).2⟩
theorem adS:Hj.ok Tryz.prog 160:=fun ds r hD hv=>by
 obtain ⟨e,ac,bs,ms,qs,l,i,b0,b1,b2,ro,rfl,hB,hi,hA,hP,hl,hp⟩:=hD
 cases hv
 refine aL (lsp:=bu) a7 aY 20 (0+12) ((t40 0 ac bs ms qs (X0 ac.length l) (Y0 ac.length l) (cQ ac.length l) b0 b1 b2 ro e i).trans ?_)
 unfold eC
 rw [Int.toNat_natCast]
 show cond (pF e !=(i:Int)) _ _=some (DV.bool (pF e==(i:Int)&&((pC e==3&&decide (ro < cI b2 (lf (Y0 ac.length l) i)))||(kW bs i (pT e).toNat != -1&&decide (kW qs i (pT e).toNat+kW (cQ ac.length l) i (pT e).toNat > kW bs i (pT e).toNat)))))
 cases hf:(pF e==(i:Int)) with
 | false=>
  rw [show (pF e !=(i:Int))=true by simp only [bne,hf]; rfl]
  rfl
 | true=>
  rw [show (pF e !=(i:Int))=false by simp only [bne,hf]; rfl,cond_false,Bool.true_and]
  obtain ⟨t,ht⟩ : ∃t:Nat,pT e=(t:Nat):=⟨(pT e).toNat,by have :=hP.t0; omega⟩
  have r6:t < ac.length:=by have :=hP.t1; omega
  have eb:i < bs.length:=by rw [hB.lb]; exact hi
  have eq:i < qs.length:=by rw [hB.lq]; exact hi
  have ebt:t < (rw bs i).length:=by rw [hB.rb i hi]; exact r6
  have eqt:t < (rw qs i).length:=by rw [hB.rq i hi]; exact r6
  have bS:=XX hl hp i
  have bQ:=L4 hl hp i t
  have hq:=hB.cq i t hi r6
  obtain ⟨a1,a2,a3,a4,a5,a6⟩:=hA
  rw [show Y0 ac.length l=cells ac.length fun j=>az (dS j) l from rfl,cW _ hi,vZ _ hi]
  rw [dW,show aq [DV.int .i64 0] [DV.int .i64 (az (dS i) l)]=true from rfl,cond_true]
  rw [show (aa [DV.int .i64 (az (dS i) l)] 0).ak=az (dS i) l from rfl,bx (n:=b2 - az (dS i) l) (by omega) (by omega),Hk]
  rw [show (aa e 2).ak=((t:Nat) :Int) from ht,ht,Int.toNat_natCast,Hm l hi r6]
  show cond (bif pC e==3 then decide (ro < cI b2 (az (dS i) l)) else false) _ _=_
  cases hc:(bif pC e==3 then decide (ro < cI b2 (az (dS i) l)) else false) with
  | true=>
   rw [show (pC e==3&&decide (ro < cI b2 (az (dS i) l)))=true from by rw [← hc]; cases (pC e==3)<;>rfl]
   rfl
  | false=>
   rw [show (pC e==3&&decide (ro < cI b2 (az (dS i) l)))=false from by rw [← hc]; cases (pC e==3)<;>rfl,cond_false,Bool.false_or]
   simp only [JJ,cond_true,decide_eq_true (show (0:Int)≤((t:Nat) :Int) by omega),Dc hB.t.b eb ebt,Dc hB.t.q eq eqt,Hl l hi,dW,show aq [DV.af] [DV.ag false 1 (cells ac.length fun t=>az (dQ i t) l)]=true from rfl,show (aa [DV.ag false 1 (cells ac.length fun t=>az (dQ i t) l)] 0).B9=1 from rfl,show (aa [DV.ag false 1 (cells ac.length fun t=>az (dQ i t) l)] 0).pK=(cells ac.length fun t=>az (dQ i t) l) from rfl,decide_true,cW _ r6,show aq [DV.int .i64 0] [DV.int .i64 (az (dQ i t) l)]=true from rfl]
   rw [show (aa [DV.int .i64 (az (dQ i t) l)] 0).ak=az (dQ i t) l from rfl]
   show some (DV.bool (bif kW bs i t != -1 then decide (IntKind.i64.wrap (kW qs i t+az (dQ i t) l) > kW bs i t) else false))=_
   rw [bx (n:=kW qs i t+az (dQ i t) l) (by omega) (by omega)]
   cases (kW bs i t != -1)<;>rfl
theorem JK: ∀f s,rM f=some s→s.ok Tryz.prog f:=aM adQ (aM adR (aM adS aY))
theorem j6 {φ:aw→Bool} : ∀{l:aj} {i:Nat},l.any φ=true→0≤dN φ l i
 | [],_,h=>by simp at h
 | e::l,i,h=>by
  unfold dN
  cases he:φ e with
  | true=>exact Int.natCast_nonneg i
  | false=>
   rw [cond_false]
   refine j6 ?_
   rw [List.any_cons,he,Bool.false_or] at h
   exact h
theorem xy {L n:Nat} {l:aj} {c:DV} (hl:l.length≤1000000)
  (hs: ∀(i:Nat) (hi:i < l.length) (k:aX),LB tab rM lE L (n+4) h960 eE (ia l c i) k=cond (bW c l[i]) (k .ret (St.of [(4,.d (.int .i64 i))] [])) (k .bC (ia l c ((i+1:Nat) :Int))))
  (he: ∀k:aX,LB tab rM lE L (n+4) h960 eE (ia l c (l.length:Nat)) k=k (.ex 0) (St.of [] [])) :
  aG (LB tab rM lE L (n+4) h960 eE) (ia l c 0) (cond (l.any (bW c)) (.ret,St.of [(4,.d (.int .i64 (dN (bW c) l 0)))] []) (.ex 0,St.of [] [])):=by
 have hR: ∀i,i≤l.length→aG (LB tab rM lE L (n+4) h960 eE) (ia l c (i:Nat)) (cond ((l.drop i).any (bW c)) (.ret,St.of [(4,.d (.int .i64 (dN (bW c) (l.drop i) i)))] []) (.ex 0,St.of [] [])):=by
  refine eF (fun i:Nat=>ia l c (i:Nat)) (fun i=>cond ((l.drop i).any (bW c)) (.ret,St.of [(4,.d (.int .i64 (dN (bW c) (l.drop i) i)))] []) (.ex 0,St.of [] [])) l.length (fun i hi=> ?_) ?_
  ·have hx:dN (bW c) (l[i]::l.drop (i+1)) i=cond (bW c l[i]) (i:Int) (dN (bW c) (l.drop (i+1)) (i+1)):=rfl
   rw [List.drop_eq_getElem_cons hi,List.any_cons,hx]
   cases h:bW c l[i] with
   | true=>
    right
    rw [Bool.true_or,cond_true,cond_true]
    exact ⟨by simp,fun k=>by rw [hs i hi,h,cond_true]⟩
   | false=>
    left
    rw [Bool.false_or,cond_false]
    exact ⟨fun k=>by rw [hs i hi,h,cond_false],rfl⟩
  ·rw [List.drop_length]
   exact ⟨by simp,fun k=>he k⟩
 exact hR 0 (Nat.zero_le _)
inductive L5 (l:aj) :DV→Prop
 | a (i:Int) :L5 l (De i)
 | b (ac bs ms qs:aj) :L5 l (QT (bk ac bs ms qs))
 | c (ac bs ms qs l':aj) (i:Nat) (b0 b1 b2 ro:Int) (hB:BK ac bs ms qs) (hi:i < ac.length) (hA:zx b0 b1 b2) (hp: ∀e∈l,PO ac.length e) (XY:l'.length≤1000) (vo: ∀e∈l',PO ac.length e) :L5 l (.func 160 (L3 (bk ac bs ms qs) ac.length l' ((i:Nat) :Int) b0 b1 b2 ro))
theorem JL {L n:Nat} {l:aj} {c:DV} (hl:l.length≤1000000) (hz: ∀e∈l,aq z7 e=true) (hc:L5 l c) :
  aG (LB tab rM lE L (n+4) h960 eE) (ia l c 0) (cond (l.any (bW c)) (.ret,St.of [(4,.d (.int .i64 (dN (bW c) l 0)))] []) (.ex 0,St.of [] [])):=by
 cases hc with
 | a x=>
  refine xy hl (fun i hi k=> ?_) fun k=> ?_
  ·rw [Df,cr hi,cond_true,gZ hi,hz _ (List.getElem_mem hi),cond_true,a8 (by omega)]
   exact au ⟨_,_,rfl⟩
  ·rw [Df,aO,cond_false]
 | b ac bs ms qs=>
  refine xy hl (fun i hi k=> ?_) fun k=> ?_
  ·rw [Dg,cr hi,cond_true,gZ hi,hz _ (List.getElem_mem hi),cond_true,a8 (by omega)]
   exact au ⟨_,_,_,_,_,rfl⟩
  ·rw [Dg,aO,cond_false]
 | c ac bs ms qs l' x b0 b1 b2 ro hB hx hA hp XY vo=>
  refine xy hl (fun i hi k=> ?_) fun k=> ?_
  ·rw [Dh,cr hi,cond_true,gZ hi,hz _ (List.getElem_mem hi),cond_true,a8 (by omega)]
   exact au ⟨_,_,_,_,_,_,_,_,_,_,_,rfl,hB,hx,hA,hp _ (List.getElem_mem hi),XY,vo⟩
  ·rw [Dh,aO,cond_false]
def rO:aR where
 D ds:= ∃x g caps,ds=[x,.func g caps]∧Sl 7 x∧(ar x).length≤1000000∧(∀e∈ar x,aq z7 e=true)∧L5 (ar x) (.func g caps)
 val ds:=match ds with | [x,c]=>some (.bool ((ar x).any (bW c))) | _=>none
theorem Hn:rO.ok Tryz.prog 51:=fun ds r hD hv=>by
 obtain ⟨x,g,caps,rfl,hx,hl,hz,hc⟩:=hD
 cases hv
 refine bI.kU hx ?_
 refine aL (lsp:=lE) a7 JK 20 (0+12) ((t28 0 (ar x) g caps).trans ?_)
 have h:=JL (L:=20) (n:=0+7) hl hz hc
 cases ha:(ar x).any (bW (.func g caps)) with
 | true=>
  rw [ha] at h
  rw [cond_true]
  refine (au h).trans ?_
  rw [decide_eq_true (j6 ha)]
 | false=>
  rw [ha] at h
  rw [cond_false]
  exact au h
def mD (n:Nat) (l:aj) :DV:= .agg [.sl .ro 1 (X0 n l),.sl .ro 1 (Y0 n l),.sl .ro 1 (cQ n l)]
def ER (v3:AV) (s:Int) (kk:Bool) (sz:Nat) (es:aj) (m i:Int) (o4 o5 o6 o9 o10:Option Ob) :St:=
 St.of [(3,v3),(4,.ptr 4 3 0 0),(5,.ptr 5 4 0 0),(6,.ptr 6 1 0 0),(9,.ptr 9 3 0 0),(10,.ptr 10 1 0 0),(11,.d (.int .i64 s)),(39,.d (.ag kk sz es)),(40,.d (.int .i64 m)),(41,.d (.int .i64 i))] [(34,none),(4,o4),(5,o5),(6,o6),(9,o9),(10,o10)]
def JM (v3:AV) (s:Int) (o4 o5 o6 o9 o10:Option Ob) :St:=
 St.of [(3,v3),(4,.ptr 4 3 0 0),(5,.ptr 5 4 0 0),(6,.ptr 6 1 0 0),(9,.ptr 9 3 0 0),(10,.ptr 10 1 0 0),(11,.d (.int .i64 s))] [(34,none),(4,o4),(5,o5),(6,o6),(9,o9),(10,o10)]
def adW:bK:=fun st=>match st.env 11,st.env 39 with
 | .d (.int _ s),.d (.ag _ _ es)=> .one (.ex 0) (JM (st.env 3) (s+cj es) (st.aT 4) (st.aT 5) (st.aT 6) (st.aT 9) (st.aT 10))
 | _,_=> .no
def lG (k:Nat) :Option bK:=if k=990 then some adW else none
noncomputable def XZ:FuncId→Option aR:=bL 51 rO (bL 158 Hg aV)
def O5 (b:aw) :Option Ob:=some (.aC 31 4 [b])
def O4 (X Y Q:aj) :Option Ob:=some (.aC 157 3 [[.sl .ro 1 X,.sl .ro 1 Y,.sl .ro 1 Q]])
def O6 (i:Int) :Option Ob:=some (.aC 3 1 [[.int .i64 i]])
def O9 (a b c:Int) :Option Ob:=some (.aC 96 3 [[.int .i64 a,.int .i64 b,.int .i64 c]])
def JN (a:Int) :Option Ob:=some (.aC 2 1 [[.int .i64 a]])
theorem X3 (L n:Nat) (l X Y Q ac bs ms qs:aj) (ii b0 b1 b2 ro s:Int) (kk:Bool) (sz:Nat) (es:aj) (m i:Nat) (k:aX) :LB tab XZ lG L (n+4) h990 C' (ER (.d (.ag false 7 l)) s kk sz es m i (O4 X Y Q) (O5 (bk ac bs ms qs)) (O6 ii) (O9 b0 b1 b2) (JN ro)) k=
  (bif decide ((↑i:Int) < (↑m:Int)) then
 bif decide ((1:Nat)=sz) then
 aA es[i]? fun (e2:aw)=>
 bif aq Cd.aB e2 then
 k Ex.bC
 (St.of
 [(3,AV.d (DV.ag false 7 l)),(4,AV.ptr 4 3 0 0),
 ((5:Nat),AV.ptr 5 4 0 0),(6,AV.ptr 6 1 0 0),
 ((9:Nat),AV.ptr 9 3 0 0),(10,AV.ptr 10 1 0 0),
 ((11:Nat),AV.d (DV.int .i64 (IntKind.i64.wrap (s+ (aa e2 0).ak)))),(39,AV.d (DV.ag kk sz es)),
 ((40:Nat),AV.d (DV.int .i64 (↑m:Int))),(41,AV.d (DV.int .i64 (IntKind.i64.wrap ((↑i:Int)+ (1:Int)))))]
 [(34,none),
 ((4:Nat),some (Ob.aC 157 3 [[DV.sl SK.ro 1 X,DV.sl SK.ro 1 Y,DV.sl SK.ro 1 Q]])),
 ((5:Nat),
 some
 (Ob.aC 31 4
 [[DV.ag false 3 ac,DV.ag false 1 bs,DV.ag false 1 ms,DV.ag false 1 qs]])),
 ((6:Nat),some (Ob.aC 3 1 [[DV.int .i64 ii]])),
 ((9:Nat),some (Ob.aC 96 3 [[DV.int .i64 b0,DV.int .i64 b1,DV.int .i64 b2]])),
 ((10:Nat),some (Ob.aC 2 1 [[DV.int .i64 ro]]))])
 else none
 else none
 else
 k (Ex.ex (0:Nat))
 (St.of
 [(3,AV.d (DV.ag false 7 l)),(4,AV.ptr 4 3 0 0),
 ((5:Nat),AV.ptr 5 4 0 0),(6,AV.ptr 6 1 0 0),
 ((9:Nat),AV.ptr 9 3 0 0),(10,AV.ptr 10 1 0 0),
 ((11:Nat),AV.d (DV.int .i64 s))]
 [(34,none),(4,some (Ob.aC 157 3 [[DV.sl SK.ro 1 X,DV.sl SK.ro 1 Y,DV.sl SK.ro 1 Q]])),
 ((5:Nat),
 some
 (Ob.aC 31 4
 [[DV.ag false 3 ac,DV.ag false 1 bs,DV.ag false 1 ms,DV.ag false 1 qs]])),
 ((6:Nat),some (Ob.aC 3 1 [[DV.int .i64 ii]])),
 ((9:Nat),some (Ob.aC 96 3 [[DV.int .i64 b0,DV.int .i64 b1,DV.int .i64 b2]])),
 ((10:Nat),some (Ob.aC 2 1 [[DV.int .i64 ro]]))])):=by kernel_rfl
def X4 (e0 e3:aw) :Int:=IntKind.i64.wrap (IntKind.i64.wrap ((aa e0 0).ak+ (aa e0 1).ak)+ (aa e3 0).ak)
def K40 (b:aw) (X Y Q:aj) (i:Int) (e0 e3:aw) :aw:=[.aI [.int .i64 i] 0,.aI [.int .i64 (aa e0 0).ak,.int .i64 (aa e0 1).ak,.int .i64 (aa e0 2).ak] 0,.aI [.sl .ro 1 X,.sl .ro 1 Y,.sl .ro 1 Q] 0,.aI [.int .i64 (X4 e0 e3)] 0,.aI b 0]
theorem t31 (n:Nat) (ac bs ms qs X Y Q l:aj) (i:Nat) :FK tab XZ lG 20 (n+12) 99 [.agg [.sl .ro 1 X,.sl .ro 1 Y,.sl .ro 1 Q],.agg (bk ac bs ms qs),.int .i64 ((i:Nat) :Int),.ag false 7 l]=
 aA ac[((i:Nat) :Int).toNat]? fun e0=>cond (aq z3 e0) (aA X[((i:Nat) :Int).toNat]? fun e3=>cond (aq z1 e3)
  (cond (decide (X4 e0 e3 < 0)) (some (.bool true))
   (aP (Hg.D [.agg (bk ac bs ms qs),.int .i64 ((i:Nat) :Int)])
    (aA Q[((i:Nat) :Int).toNat]? fun e8=>cond (aq [.af] e8)
     (aP (aG (LB tab XZ lG 20 (n+12) h990 C') (ER (.d (.ag false 7 l)) (cj (rw qs i)) (aa e8 0).slT (aa e8 0).B9 (aa e8 0).pK ((aa e8 0).pK.length:Nat) 0 (O4 X Y Q) (O5 (bk ac bs ms qs)) (O6 ((i:Nat) :Int)) (O9 (aa e0 0).ak (aa e0 1).ak (aa e0 2).ak) (JN (X4 e0 e3)))
       (.ex 0,JM (.d (.ag false 7 l)) (cj (rw qs i)+cj (aa e8 0).pK) (O4 X Y Q) (O5 (bk ac bs ms qs)) (O6 ((i:Nat) :Int)) (O9 (aa e0 0).ak (aa e0 1).ak (aa e0 2).ak) (JN (X4 e0 e3))))
      (aA ms[((i:Nat) :Int).toNat]? fun e12=>cond (aq z1 e12)
       (cond (bif (aa e12 0).ak !=(-1:Int) then decide (cj (rw qs i)+cj (aa e8 0).pK > (aa e12 0).ak) else false) (some (.bool true))
        (aP (rO.D [.ag false 7 l,.func 160 (K40 (bk ac bs ms qs) X Y Q ((i:Nat) :Int) e0 e3)])
         (some (.bool (l.any (bW (.func 160 (K40 (bk ac bs ms qs) X Y Q ((i:Nat) :Int) e0 e3))))))))
       none))
     none))) none) none:=by kernel_rfl
def BC (ac l:aj) (i:Nat) :Int:=ka ac i 0+ka ac i 1+az (dM i) l
def ES (qs:aj) (n:Nat) (l:aj) (i:Nat) :Int:=cj (rw qs i)+cj (cells n fun t=>az (dQ i t) l)
def eB (ac bs qs l:aj) (i:Nat) (e:aw) :Bool:=pF e==(i:Int)&&((pC e==3&&decide (BC ac l i < cI (ka ac i 2) (az (dS i) l)))||(kW bs i (pT e).toNat != -1&&decide (kW qs i (pT e).toNat+az (dQ i (pT e).toNat) l > kW bs i (pT e).toNat)))
def QU (ac bs ms qs l:aj) (i:Nat) :Bool:=decide (BC ac l i < 0)||((lf ms i != -1&&decide (ES qs ac.length l i > lf ms i))||l.any (eB ac bs qs l i))
def Di:aR where
 D ds:= ∃ac bs ms qs i x,ds=[mD ac.length (ar x),.agg (bk ac bs ms qs),.int .i64 ((i:Nat) :Int),x]∧BK ac bs ms qs∧i < ac.length∧Sl 7 x∧(ar x).length≤1000∧ ∀e∈ar x,PO ac.length e
 val ds:=match ds with | [_,.agg [.ag _ _ ac,.ag _ _ bs,.ag _ _ ms,.ag _ _ qs],.int _ i,x]=>some (.bool (QU ac bs ms qs (ar x) i.toNat)) | _=>none
theorem OC: ∀f s,XZ f=some s→s.ok Tryz.prog f:=aM Hn (aM XS aY)
theorem ry {B:Int} : ∀{es:aj},(∀r∈es,-B≤fe r∧fe r≤B)→ -(B * (es.length:Int))≤cj es∧cj es≤B * (es.length:Int)
 | [],_=>by simp [cj]
 | e::l,h=>by
  have h1:=h e (by simp)
  have h2:=ry fun r hr=>h r (List.mem_cons.2 (.inr hr))
  simp only [cj,List.length_cons]
  rw [show (((l.length+1:Nat)) :Int)=(l.length:Int)+1 by omega,Int.mul_add,Int.mul_one]
  omega
theorem JO {L n:Nat} {l X Y Q ac bs ms qs:aj} {ii b0 b1 b2 ro s:Int} {kk:Bool} {es:aj} (hz: ∀r∈es,aq z1 r=true∧(-1099511627776000≤fe r∧fe r≤1099511627776000)) (h6:es.length≤6) (hs: -600000000000000000≤s∧s≤600000000000000000) :
  aG (LB tab XZ lG L (n+4) h990 C') (ER (.d (.ag false 7 l)) s kk 1 es (es.length:Nat) 0 (O4 X Y Q) (O5 (bk ac bs ms qs)) (O6 ii) (O9 b0 b1 b2) (JN ro)) (.ex 0,JM (.d (.ag false 7 l)) (s+cj es) (O4 X Y Q) (O5 (bk ac bs ms qs)) (O6 ii) (O9 b0 b1 b2) (JN ro)):=by
 have h0:ER (.d (.ag false 7 l)) s kk 1 es (es.length:Nat) 0 (O4 X Y Q) (O5 (bk ac bs ms qs)) (O6 ii) (O9 b0 b1 b2) (JN ro)=ER (.d (.ag false 7 l)) (s+cj (es.take 0)) kk 1 es (es.length:Nat) ((0:Nat) :Int) (O4 X Y Q) (O5 (bk ac bs ms qs)) (O6 ii) (O9 b0 b1 b2) (JN ro):=by
  rw [List.take_zero,show cj []=0 from rfl,Int.add_zero]
  rfl
 rw [h0]
 refine ez (fun i:Nat=>ER (.d (.ag false 7 l)) (s+cj (es.take i)) kk 1 es (es.length:Nat) (i:Nat) (O4 X Y Q) (O5 (bk ac bs ms qs)) (O6 ii) (O9 b0 b1 b2) (JN ro)) (fun i=>es.length - i) (fun i=>i≤es.length) (fun _=>(.ex 0,JM (.d (.ag false 7 l)) (s+cj es) (O4 X Y Q) (O5 (bk ac bs ms qs)) (O6 ii) (O9 b0 b1 b2) (JN ro))) (fun i dp=> ?_) 0 (Nat.zero_le _)
 by_cases hi:i < es.length
 ·left
  refine ⟨i+1,hi,by omega,rfl,fun k=> ?_⟩
  have XR:=ry (es:=es.take (i+1)) (B:=1099511627776000) fun r hr=>(hz r (List.mem_of_mem_take hr)).2
  have dZ:(es.take (i+1)).length≤6:=by rw [List.length_take]; omega
  rw [qA hi] at XR ⊢
  rw [X3,cr hi,cond_true,decide_eq_true rfl,cond_true,bf hi,(hz _ (List.getElem_mem hi)).1,cond_true,a8 (by omega)]
  rw [show (aa es[i] 0).ak=fe es[i] from rfl,bx (n:=s+cj (es.take i)+fe es[i]) (by omega) (by omega),Int.add_assoc]
  rfl
 ·right
  have :i=es.length:=by omega
  subst this
  refine ⟨by simp,fun k=> ?_⟩
  rw [X3,aO,List.take_length]
  rfl
theorem BD {φ ψ:aw→Bool} {l:aj} (h: ∀e∈l,φ e=ψ e) :l.any φ=l.any ψ:=by
 induction l with
 | nil=>rfl
 | cons a l ih=>
  rw [List.any_cons,List.any_cons,h a (by simp),ih fun e he=>h e (List.mem_cons.2 (.inr he))]
theorem JP:Di.ok Tryz.prog 99:=fun ds r hD hv=>by
 obtain ⟨ac,bs,ms,qs,i,x,rfl,hB,hi,hx,hl,hp⟩:=hD
 cases hv
 rw [Int.toNat_natCast]
 have hle:gY [mD ac.length (ar x),.agg (bk ac bs ms qs),.int .i64 ((i:Nat) :Int),x] [mD ac.length (ar x),.agg (bk ac bs ms qs),.int .i64 ((i:Nat) :Int),.ag false 7 (ar x)]:=gY.cons (fj.refl _) (gY.cons (fj.refl _) (gY.cons (fj.refl _) (gY.cons hx.le gY.nil)))
 refine bI.args hle rfl rfl ?_
 generalize ar x=l at *
 refine aL (lsp:=lG) a7 OC 20 (0+12) ((t31 0 ac bs ms qs (X0 ac.length l) (Y0 ac.length l) (cQ ac.length l) l i).trans ?_)
 have em:i < ms.length:=by rw [hB.lm]; exact hi
 have ID:=hB.ca i hi
 have X5:=ID
 unfold zx at X5
 obtain ⟨c1,c2,c3,c4,c5,c6⟩:=X5
 obtain ⟨hnD,hnb⟩:=hB.ru hi
 have bM:=XW hl hp i
 simp only [Int.toNat_natCast]
 rw [Dd hi hB.t.a,show X0 ac.length l=cells ac.length fun j=>az (dM j) l from rfl,cW _ hi,dW]
 rw [show aq z1 [DV.int .i64 (az (dM i) l)]=true from rfl,cond_true]
 have cR:X4 (ac[i]?.getD []) [DV.int .i64 (az (dM i) l)]=BC ac l i:=by
  show IntKind.i64.wrap (IntKind.i64.wrap (ka ac i 0+ka ac i 1)+az (dM i) l)=_
  rw [bx (n:=ka ac i 0+ka ac i 1) (by omega) (by omega),bx (by omega) (by omega)]
  rfl
 rw [cR]
 unfold QU
 cases hr:decide (BC ac l i < 0) with
 | true=>rfl
 | false=>
  rw [cond_false,Bool.false_or]
  refine (au hnD).trans ?_
  rw [Hl l hi,dW,show aq [DV.af] [DV.ag false 1 (cells ac.length fun t=>az (dQ i t) l)]=true from rfl,cond_true]
  have hL:=JO (L:=20) (n:=0+8) (l:=l) (X:=cells ac.length fun j=>az (dM j) l) (Y:=Y0 ac.length l) (Q:=cQ ac.length l) (ac:=ac) (bs:=bs) (ms:=ms) (qs:=qs) (ii:=((i:Nat) :Int)) (b0:=ka ac i 0) (b1:=ka ac i 1) (b2:=ka ac i 2) (ro:=BC ac l i) (s:=cj (rw qs i)) (kk:=false) (es:=cells ac.length fun t=>az (dQ i t) l) (fun r hr=>by
   obtain ⟨j,hj,rfl⟩:=List.mem_map.1 hr
   exact ⟨rfl,L4 hl hp i j⟩) (by rw [cM]; exact hB.n6) (by omega)
  refine (au hL).trans ?_
  rw [Dd em (fun e he=>(hB.t.m e he).1)]
  show cond (bif lf ms i !=(-1:Int) then decide (ES qs ac.length l i > lf ms i) else false) _ _=_
  have hb:(bif lf ms i !=(-1:Int) then decide (ES qs ac.length l i > lf ms i) else false)=(lf ms i != -1&&decide (ES qs ac.length l i > lf ms i)):=by cases (lf ms i !=(-1:Int))<;>rfl
  rw [hb]
  cases hm:(lf ms i != -1&&decide (ES qs ac.length l i > lf ms i)) with
  | true=>rfl
  | false=>
   rw [cond_false,Bool.false_or]
   have hK:K40 (bk ac bs ms qs) (cells ac.length fun j=>az (dM j) l) (Y0 ac.length l) (cQ ac.length l) ((i:Nat) :Int) (ac[i]?.getD []) [DV.int .i64 (az (dM i) l)]=L3 (bk ac bs ms qs) ac.length l ((i:Nat) :Int) (ka ac i 0) (ka ac i 1) (ka ac i 2) (BC ac l i):=by
    unfold K40 L3
    rw [cR]
    rfl
   rw [hK]
   refine (au ⟨_,_,_,rfl,Sl.ag 7 false l,by show l.length≤1000000; omega,fun e he=>(hp e he).z,L5.c ac bs ms qs l i _ _ _ _ hB hi ID hp hl hp⟩).trans ?_
   congr 2
   refine BD fun e he=> ?_
   have hP:=hp e he
   obtain ⟨t,ht⟩ : ∃t:Nat,pT e=(t:Nat):=⟨(pT e).toNat,by have :=hP.t0; omega⟩
   have r6:t < ac.length:=by have :=hP.t1; omega
   show eC bs qs (Y0 ac.length l) (cQ ac.length l) ((i:Nat) :Int).toNat (BC ac l i) (ka ac i 2) e=_
   unfold eC eB
   rw [Int.toNat_natCast,ht,Int.toNat_natCast,Hm l hi r6,show Y0 ac.length l=cells ac.length fun j=>az (dS j) l from rfl,vZ _ hi]
noncomputable def mu:FuncId→Option aR:=bL 51 rO (bL 97 tN (bL 99 Di aV))
def cZ (ac bs ms qs l:aj) (i:Nat) :Bool:=l.any (bW (De (i:Nat)))&&QU ac bs ms qs l i
def cd (n:Nat) (P:Nat→Bool) :aj:=((List.range n).filter P).map fun i=>[.int .i64 ((i:Nat) :Int)]
def par:Nat→Bool
 | 0=>true
 | n+1=> !par n
def zB (v:AV) (o1 o2:Option Ob) :St:=St.of [(6,v)] [(34,o1),(50034,o2)]
def oV:Nat→Nat→AV
 | 0,_=> .d .af
 | c+1,m=> .ah (cond (par c) 34 50034) 1 0 m
def o1 (O:aj) :Nat→Option Ob
 | 0=>none
 | c+1=>cond (par c) (some (.aC 3 1 O)) none
def o2 (O:aj) :Nat→Option Ob
 | 0=>none
 | c+1=>cond (par c) none (some (.aC 3 1 O))
def adY:bK:=fun st=>match st.env 1,st.env 2 with
 | .d (.ag _ _ l),.d (.aI [.ag _ _ ac,.ag _ _ bs,.ag _ _ ms,.ag _ _ qs] _)=>
  .br (cd ac.length (cZ ac bs ms qs l)).isEmpty (.one (.ex 0) (zB (.d .af) none none))
   (.br (par ((cd ac.length (cZ ac bs ms qs l)).length - 1)) (.one (.ex 0) (zB (.ah 34 1 0 (cd ac.length (cZ ac bs ms qs l)).length) (some (.aC 3 1 (cd ac.length (cZ ac bs ms qs l)))) none))
    (.one (.ex 0) (zB (.ah 50034 1 0 (cd ac.length (cZ ac bs ms qs l)).length) none (some (.aC 3 1 (cd ac.length (cZ ac bs ms qs l)))))))
 | _,_=> .no
def lH (k:Nat) :Option bK:=if k=520 then some adY else none
def db (n:Nat) (b:aw) (l:aj) (v:AV) (i:Int) (o1 o2:Option Ob) :St:=
 St.of [(1,.d (.ag false 7 l)),(2,.d (.aI b 0)),(5,.ptr 5 3 0 0),(6,v),(16,.d (.int .i64 (n:Nat))),(17,.d (.int .i64 i))]
  ((13,none)::(34,o1)::(50034,o2)::(100013,some (.aC 2 1 (X0 n l)))::(200013,some (.aC 2 1 (Y0 n l)))::(300013,some (.mix 29 1 (zy n 13 n 4)))::(QS 13 6 4 (Q0 n l)++[(2,none),(5,some (.mix 157 3 [[.ah 100013 1 0 n,.ah 200013 1 0 n,.ah 300013 1 0 n]]))]))
noncomputable def eG (n:Nat) (ac bs ms qs l:aj) (v:AV) (i:Nat) (a1 a2:Option Ob) (app:aH) (k:aX) :aH:=
 cond (decide ((i:Int) < (n:Int))) (aP (rO.D [.ag false 7 l,De (i:Int)])
  (cond (l.any (bW (De (i:Int)))) (aP (Di.D [mD n l,.agg (bk ac bs ms qs),.int .i64 ((i:Nat) :Int),.ag false 7 l])
   (cond (QU ac bs ms qs l ((i:Nat) :Int).toNat) app (k .bC (db n (bk ac bs ms qs) l v (IntKind.i64.wrap ((i:Int)+1)) a1 a2))))
   (k .bC (db n (bk ac bs ms qs) l v (IntKind.i64.wrap ((i:Int)+1)) a1 a2))))
 (k (.ex 0) (zB v a1 a2))
def n5 (O:aj) (i:Nat) :Bool:=decide ((3:Nat)=3∧(1:Nat)=1∧(1:Nat)=1∧(0:Nat)=0∧O.length=O.length∧(O++[[DV.int .i64 ((i:Nat) :Int)]]).length * 8≤room∧(O++[[DV.int .i64 ((i:Nat) :Int)]]).length≤room)
def JQ (O:aj) :aH:=cond (decide (O.length=O.length)) (some (.sl (.own 3) 1 O)) (cond (decide (0+O.length≤O.length)) (some (.sl .ro 1 (List.take O.length O))) none)
theorem r7 (O:aj) :JQ O=some (.sl (.own 3) 1 O):=by
 unfold JQ
 rw [decide_eq_true rfl,cond_true]
noncomputable def xz (m n:Nat) (ac bs ms qs l:aj) :aH:=
 cond (cd ac.length (cZ ac bs ms qs l)).isEmpty (aP (aG (LB tab mu lH 20 (m+12) h520 dY) (db n (bk ac bs ms qs) l (.d .af) 0 none none) (.ex 0,zB (.d .af) none none)) (some .af))
  (cond (par ((cd ac.length (cZ ac bs ms qs l)).length - 1))
   (aP (aG (LB tab mu lH 20 (m+12) h520 dY) (db n (bk ac bs ms qs) l (.d .af) 0 none none) (.ex 0,zB (.ah 34 1 0 (cd ac.length (cZ ac bs ms qs l)).length) (some (.aC 3 1 (cd ac.length (cZ ac bs ms qs l)))) none)) (JQ (cd ac.length (cZ ac bs ms qs l))))
   (aP (aG (LB tab mu lH 20 (m+12) h520 dY) (db n (bk ac bs ms qs) l (.d .af) 0 none none) (.ex 0,zB (.ah 50034 1 0 (cd ac.length (cZ ac bs ms qs l)).length) none (some (.aC 3 1 (cd ac.length (cZ ac bs ms qs l)))))) (JQ (cd ac.length (cZ ac bs ms qs l)))))
theorem JR (L m:Nat) (ac bs ms qs l:aj) (i:Nat) (k:aX) :LB tab mu lH L (m+4) h520 dY (db 1 (bk ac bs ms qs) l (.d .af) i none none) k=eG 1 ac bs ms qs l (.d .af) i none none (k .bC (db 1 (bk ac bs ms qs) l (.ah 34 1 0 1) (IntKind.i64.wrap ((i:Int)+1)) (some (.aC 3 1 [[.int .i64 ((i:Nat) :Int)]])) none)) k:=by kernel_rfl
theorem JS (L m:Nat) (ac bs ms qs l O:aj) (i:Nat) (k:aX) :LB tab mu lH L (m+4) h520 dY (db 1 (bk ac bs ms qs) l (.ah 34 1 0 O.length) i (some (.aC 3 1 O)) none) k=eG 1 ac bs ms qs l (.ah 34 1 0 O.length) i (some (.aC 3 1 O)) none (cond (n5 O i) (k .bC (db 1 (bk ac bs ms qs) l (.ah 50034 1 0 (O++[[DV.int .i64 ((i:Nat) :Int)]]).length) (IntKind.i64.wrap ((i:Int)+1)) none (some (.aC 3 1 (O++[[.int .i64 ((i:Nat) :Int)]]))))) none) k:=by kernel_rfl
theorem JT (L m:Nat) (ac bs ms qs l O:aj) (i:Nat) (k:aX) :LB tab mu lH L (m+4) h520 dY (db 1 (bk ac bs ms qs) l (.ah 50034 1 0 O.length) i none (some (.aC 3 1 O))) k=eG 1 ac bs ms qs l (.ah 50034 1 0 O.length) i none (some (.aC 3 1 O)) (cond (n5 O i) (k .bC (db 1 (bk ac bs ms qs) l (.ah 34 1 0 (O++[[DV.int .i64 ((i:Nat) :Int)]]).length) (IntKind.i64.wrap ((i:Int)+1)) (some (.aC 3 1 (O++[[.int .i64 ((i:Nat) :Int)]]))) none)) none) k:=by kernel_rfl
theorem X6 (m:Nat) (p0:aw) (bs ms qs l:aj) :FK tab mu lH 20 (m+12) 52 [.agg (bk [p0] bs ms qs),.ag false 7 l]=aP (tN.D [.int .i64 1,.ag false 7 l]) (xz m 1 [p0] bs ms qs l):=by kernel_rfl
theorem JU (L m:Nat) (ac bs ms qs l:aj) (i:Nat) (k:aX) :LB tab mu lH L (m+4) h520 dY (db 2 (bk ac bs ms qs) l (.d .af) i none none) k=eG 2 ac bs ms qs l (.d .af) i none none (k .bC (db 2 (bk ac bs ms qs) l (.ah 34 1 0 1) (IntKind.i64.wrap ((i:Int)+1)) (some (.aC 3 1 [[.int .i64 ((i:Nat) :Int)]])) none)) k:=by kernel_rfl
theorem JV (L m:Nat) (ac bs ms qs l O:aj) (i:Nat) (k:aX) :LB tab mu lH L (m+4) h520 dY (db 2 (bk ac bs ms qs) l (.ah 34 1 0 O.length) i (some (.aC 3 1 O)) none) k=eG 2 ac bs ms qs l (.ah 34 1 0 O.length) i (some (.aC 3 1 O)) none (cond (n5 O i) (k .bC (db 2 (bk ac bs ms qs) l (.ah 50034 1 0 (O++[[DV.int .i64 ((i:Nat) :Int)]]).length) (IntKind.i64.wrap ((i:Int)+1)) none (some (.aC 3 1 (O++[[.int .i64 ((i:Nat) :Int)]]))))) none) k:=by kernel_rfl
theorem JW (L m:Nat) (ac bs ms qs l O:aj) (i:Nat) (k:aX) :LB tab mu lH L (m+4) h520 dY (db 2 (bk ac bs ms qs) l (.ah 50034 1 0 O.length) i none (some (.aC 3 1 O))) k=eG 2 ac bs ms qs l (.ah 50034 1 0 O.length) i none (some (.aC 3 1 O)) (cond (n5 O i) (k .bC (db 2 (bk ac bs ms qs) l (.ah 34 1 0 (O++[[DV.int .i64 ((i:Nat) :Int)]]).length) (IntKind.i64.wrap ((i:Int)+1)) (some (.aC 3 1 (O++[[.int .i64 ((i:Nat) :Int)]]))) none)) none) k:=by kernel_rfl
theorem X7 (m:Nat) (p0 p1:aw) (bs ms qs l:aj) :FK tab mu lH 20 (m+12) 52 [.agg (bk [p0,p1] bs ms qs),.ag false 7 l]=aP (tN.D [.int .i64 2,.ag false 7 l]) (xz m 2 [p0,p1] bs ms qs l):=by kernel_rfl
theorem JX (L m:Nat) (ac bs ms qs l:aj) (i:Nat) (k:aX) :LB tab mu lH L (m+4) h520 dY (db 3 (bk ac bs ms qs) l (.d .af) i none none) k=eG 3 ac bs ms qs l (.d .af) i none none (k .bC (db 3 (bk ac bs ms qs) l (.ah 34 1 0 1) (IntKind.i64.wrap ((i:Int)+1)) (some (.aC 3 1 [[.int .i64 ((i:Nat) :Int)]])) none)) k:=by kernel_rfl
theorem JY (L m:Nat) (ac bs ms qs l O:aj) (i:Nat) (k:aX) :LB tab mu lH L (m+4) h520 dY (db 3 (bk ac bs ms qs) l (.ah 34 1 0 O.length) i (some (.aC 3 1 O)) none) k=eG 3 ac bs ms qs l (.ah 34 1 0 O.length) i (some (.aC 3 1 O)) none (cond (n5 O i) (k .bC (db 3 (bk ac bs ms qs) l (.ah 50034 1 0 (O++[[DV.int .i64 ((i:Nat) :Int)]]).length) (IntKind.i64.wrap ((i:Int)+1)) none (some (.aC 3 1 (O++[[.int .i64 ((i:Nat) :Int)]]))))) none) k:=by kernel_rfl
theorem JZ (L m:Nat) (ac bs ms qs l O:aj) (i:Nat) (k:aX) :LB tab mu lH L (m+4) h520 dY (db 3 (bk ac bs ms qs) l (.ah 50034 1 0 O.length) i none (some (.aC 3 1 O))) k=eG 3 ac bs ms qs l (.ah 50034 1 0 O.length) i none (some (.aC 3 1 O)) (cond (n5 O i) (k .bC (db 3 (bk ac bs ms qs) l (.ah 34 1 0 (O++[[DV.int .i64 ((i:Nat) :Int)]]).length) (IntKind.i64.wrap ((i:Int)+1)) (some (.aC 3 1 (O++[[.int .i64 ((i:Nat) :Int)]]))) none)) none) k:=by kernel_rfl
theorem X8 (m:Nat) (p0 p1 p2:aw) (bs ms qs l:aj) :FK tab mu lH 20 (m+12) 52 [.agg (bk [p0,p1,p2] bs ms qs),.ag false 7 l]=aP (tN.D [.int .i64 3,.ag false 7 l]) (xz m 3 [p0,p1,p2] bs ms qs l):=by kernel_rfl
theorem J0 (L m:Nat) (ac bs ms qs l:aj) (i:Nat) (k:aX) :LB tab mu lH L (m+4) h520 dY (db 4 (bk ac bs ms qs) l (.d .af) i none none) k=eG 4 ac bs ms qs l (.d .af) i none none (k .bC (db 4 (bk ac bs ms qs) l (.ah 34 1 0 1) (IntKind.i64.wrap ((i:Int)+1)) (some (.aC 3 1 [[.int .i64 ((i:Nat) :Int)]])) none)) k:=by kernel_rfl
theorem J1 (L m:Nat) (ac bs ms qs l O:aj) (i:Nat) (k:aX) :LB tab mu lH L (m+4) h520 dY (db 4 (bk ac bs ms qs) l (.ah 34 1 0 O.length) i (some (.aC 3 1 O)) none) k=eG 4 ac bs ms qs l (.ah 34 1 0 O.length) i (some (.aC 3 1 O)) none (cond (n5 O i) (k .bC (db 4 (bk ac bs ms qs) l (.ah 50034 1 0 (O++[[DV.int .i64 ((i:Nat) :Int)]]).length) (IntKind.i64.wrap ((i:Int)+1)) none (some (.aC 3 1 (O++[[.int .i64 ((i:Nat) :Int)]]))))) none) k:=by kernel_rfl
theorem J2 (L m:Nat) (ac bs ms qs l O:aj) (i:Nat) (k:aX) :LB tab mu lH L (m+4) h520 dY (db 4 (bk ac bs ms qs) l (.ah 50034 1 0 O.length) i none (some (.aC 3 1 O))) k=eG 4 ac bs ms qs l (.ah 50034 1 0 O.length) i none (some (.aC 3 1 O)) (cond (n5 O i) (k .bC (db 4 (bk ac bs ms qs) l (.ah 34 1 0 (O++[[DV.int .i64 ((i:Nat) :Int)]]).length) (IntKind.i64.wrap ((i:Int)+1)) (some (.aC 3 1 (O++[[.int .i64 ((i:Nat) :Int)]]))) none)) none) k:=by kernel_rfl
theorem X9 (m:Nat) (p0 p1 p2 p3:aw) (bs ms qs l:aj) :FK tab mu lH 20 (m+12) 52 [.agg (bk [p0,p1,p2,p3] bs ms qs),.ag false 7 l]=aP (tN.D [.int .i64 4,.ag false 7 l]) (xz m 4 [p0,p1,p2,p3] bs ms qs l):=by kernel_rfl
theorem J3 (L m:Nat) (ac bs ms qs l:aj) (i:Nat) (k:aX) :LB tab mu lH L (m+4) h520 dY (db 5 (bk ac bs ms qs) l (.d .af) i none none) k=eG 5 ac bs ms qs l (.d .af) i none none (k .bC (db 5 (bk ac bs ms qs) l (.ah 34 1 0 1) (IntKind.i64.wrap ((i:Int)+1)) (some (.aC 3 1 [[.int .i64 ((i:Nat) :Int)]])) none)) k:=by kernel_rfl
theorem J4 (L m:Nat) (ac bs ms qs l O:aj) (i:Nat) (k:aX) :LB tab mu lH L (m+4) h520 dY (db 5 (bk ac bs ms qs) l (.ah 34 1 0 O.length) i (some (.aC 3 1 O)) none) k=eG 5 ac bs ms qs l (.ah 34 1 0 O.length) i (some (.aC 3 1 O)) none (cond (n5 O i) (k .bC (db 5 (bk ac bs ms qs) l (.ah 50034 1 0 (O++[[DV.int .i64 ((i:Nat) :Int)]]).length) (IntKind.i64.wrap ((i:Int)+1)) none (some (.aC 3 1 (O++[[.int .i64 ((i:Nat) :Int)]]))))) none) k:=by kernel_rfl
theorem J5 (L m:Nat) (ac bs ms qs l O:aj) (i:Nat) (k:aX) :LB tab mu lH L (m+4) h520 dY (db 5 (bk ac bs ms qs) l (.ah 50034 1 0 O.length) i none (some (.aC 3 1 O))) k=eG 5 ac bs ms qs l (.ah 50034 1 0 O.length) i none (some (.aC 3 1 O)) (cond (n5 O i) (k .bC (db 5 (bk ac bs ms qs) l (.ah 34 1 0 (O++[[DV.int .i64 ((i:Nat) :Int)]]).length) (IntKind.i64.wrap ((i:Int)+1)) (some (.aC 3 1 (O++[[.int .i64 ((i:Nat) :Int)]]))) none)) none) k:=by kernel_rfl
theorem Ya (m:Nat) (p0 p1 p2 p3 p4:aw) (bs ms qs l:aj) :FK tab mu lH 20 (m+12) 52 [.agg (bk [p0,p1,p2,p3,p4] bs ms qs),.ag false 7 l]=aP (tN.D [.int .i64 5,.ag false 7 l]) (xz m 5 [p0,p1,p2,p3,p4] bs ms qs l):=by kernel_rfl
theorem J6 (L m:Nat) (ac bs ms qs l:aj) (i:Nat) (k:aX) :LB tab mu lH L (m+4) h520 dY (db 6 (bk ac bs ms qs) l (.d .af) i none none) k=eG 6 ac bs ms qs l (.d .af) i none none (k .bC (db 6 (bk ac bs ms qs) l (.ah 34 1 0 1) (IntKind.i64.wrap ((i:Int)+1)) (some (.aC 3 1 [[.int .i64 ((i:Nat) :Int)]])) none)) k:=by kernel_rfl
theorem J7 (L m:Nat) (ac bs ms qs l O:aj) (i:Nat) (k:aX) :LB tab mu lH L (m+4) h520 dY (db 6 (bk ac bs ms qs) l (.ah 34 1 0 O.length) i (some (.aC 3 1 O)) none) k=eG 6 ac bs ms qs l (.ah 34 1 0 O.length) i (some (.aC 3 1 O)) none (cond (n5 O i) (k .bC (db 6 (bk ac bs ms qs) l (.ah 50034 1 0 (O++[[DV.int .i64 ((i:Nat) :Int)]]).length) (IntKind.i64.wrap ((i:Int)+1)) none (some (.aC 3 1 (O++[[.int .i64 ((i:Nat) :Int)]]))))) none) k:=by kernel_rfl
theorem J8 (L m:Nat) (ac bs ms qs l O:aj) (i:Nat) (k:aX) :LB tab mu lH L (m+4) h520 dY (db 6 (bk ac bs ms qs) l (.ah 50034 1 0 O.length) i none (some (.aC 3 1 O))) k=eG 6 ac bs ms qs l (.ah 50034 1 0 O.length) i none (some (.aC 3 1 O)) (cond (n5 O i) (k .bC (db 6 (bk ac bs ms qs) l (.ah 34 1 0 (O++[[DV.int .i64 ((i:Nat) :Int)]]).length) (IntKind.i64.wrap ((i:Int)+1)) (some (.aC 3 1 (O++[[.int .i64 ((i:Nat) :Int)]]))) none)) none) k:=by kernel_rfl
theorem Yb (m:Nat) (p0 p1 p2 p3 p4 p5:aw) (bs ms qs l:aj) :FK tab mu lH 20 (m+12) 52 [.agg (bk [p0,p1,p2,p3,p4,p5] bs ms qs),.ag false 7 l]=aP (tN.D [.int .i64 6,.ag false 7 l]) (xz m 6 [p0,p1,p2,p3,p4,p5] bs ms qs l):=by kernel_rfl
theorem L6 {n:Nat} (hn:1≤n∧n≤6) (L m:Nat) (ac bs ms qs l:aj) (i:Nat) (k:aX) :LB tab mu lH L (m+4) h520 dY (db n (bk ac bs ms qs) l (.d .af) i none none) k=eG n ac bs ms qs l (.d .af) i none none (k .bC (db n (bk ac bs ms qs) l (.ah 34 1 0 1) (IntKind.i64.wrap ((i:Int)+1)) (some (.aC 3 1 [[.int .i64 ((i:Nat) :Int)]])) none)) k:=by
 match n,hn with
 | 1,_=>exact JR L m ac bs ms qs l i k
 | 2,_=>exact JU L m ac bs ms qs l i k
 | 3,_=>exact JX L m ac bs ms qs l i k
 | 4,_=>exact J0 L m ac bs ms qs l i k
 | 5,_=>exact J3 L m ac bs ms qs l i k
 | 6,_=>exact J6 L m ac bs ms qs l i k
 | 0,h=>omega
 | c+7,h=>omega
theorem L7 {n:Nat} (hn:1≤n∧n≤6) (L m:Nat) (ac bs ms qs l O:aj) (i:Nat) (k:aX) :LB tab mu lH L (m+4) h520 dY (db n (bk ac bs ms qs) l (.ah 34 1 0 O.length) i (some (.aC 3 1 O)) none) k=eG n ac bs ms qs l (.ah 34 1 0 O.length) i (some (.aC 3 1 O)) none (cond (n5 O i) (k .bC (db n (bk ac bs ms qs) l (.ah 50034 1 0 (O++[[DV.int .i64 ((i:Nat) :Int)]]).length) (IntKind.i64.wrap ((i:Int)+1)) none (some (.aC 3 1 (O++[[.int .i64 ((i:Nat) :Int)]]))))) none) k:=by
 match n,hn with
 | 1,_=>exact JS L m ac bs ms qs l O i k
 | 2,_=>exact JV L m ac bs ms qs l O i k
 | 3,_=>exact JY L m ac bs ms qs l O i k
 | 4,_=>exact J1 L m ac bs ms qs l O i k
 | 5,_=>exact J4 L m ac bs ms qs l O i k
 | 6,_=>exact J7 L m ac bs ms qs l O i k
 | 0,h=>omega
 | c+7,h=>omega
theorem L8 {n:Nat} (hn:1≤n∧n≤6) (L m:Nat) (ac bs ms qs l O:aj) (i:Nat) (k:aX) :LB tab mu lH L (m+4) h520 dY (db n (bk ac bs ms qs) l (.ah 50034 1 0 O.length) i none (some (.aC 3 1 O))) k=eG n ac bs ms qs l (.ah 50034 1 0 O.length) i none (some (.aC 3 1 O)) (cond (n5 O i) (k .bC (db n (bk ac bs ms qs) l (.ah 34 1 0 (O++[[DV.int .i64 ((i:Nat) :Int)]]).length) (IntKind.i64.wrap ((i:Int)+1)) (some (.aC 3 1 (O++[[.int .i64 ((i:Nat) :Int)]]))) none)) none) k:=by
 match n,hn with
 | 1,_=>exact JT L m ac bs ms qs l O i k
 | 2,_=>exact JW L m ac bs ms qs l O i k
 | 3,_=>exact JZ L m ac bs ms qs l O i k
 | 4,_=>exact J2 L m ac bs ms qs l O i k
 | 5,_=>exact J5 L m ac bs ms qs l O i k
 | 6,_=>exact J8 L m ac bs ms qs l O i k
 | 0,h=>omega
 | c+7,h=>omega
theorem t16 {ac:aj} (hn:1≤ac.length∧ac.length≤6) (m:Nat) (bs ms qs l:aj) :FK tab mu lH 20 (m+12) 52 [.agg (bk ac bs ms qs),.ag false 7 l]=aP (tN.D [.int .i64 (ac.length:Nat),.ag false 7 l]) (xz m ac.length ac bs ms qs l):=by
 match ac,hn with
 | [a],_=>exact X6 m a bs ms qs l
 | [a,b],_=>exact X7 m a b bs ms qs l
 | [a,b,c],_=>exact X8 m a b c bs ms qs l
 | [a,b,c,d],_=>exact X9 m a b c d bs ms qs l
 | [a,b,c,d,e],_=>exact Ya m a b c d e bs ms qs l
 | [a,b,c,d,e,f],_=>exact Yb m a b c d e f bs ms qs l
 | [],h=>exact absurd h.1 (by simp)
 | a::b::c::d::e::f::g::t,h=>
  simp only [List.length_cons] at h
  omega
theorem xC: ∀f s,mu f=some s→s.ok Tryz.prog f:=aM Hn (aM XN (aM JP aY))
theorem ET (n:Nat) (P:Nat→Bool) :cd (n+1) P=cd n P++cond (P n) [[.int .i64 ((n:Nat) :Int)]] []:=by
 unfold cd
 rw [List.range_succ,List.filter_append,List.map_append]
 cases h:P n<;>simp [h]
theorem Ho (n:Nat) (P:Nat→Bool) :(cd n P).length≤n:=by
 unfold cd
 rw [List.length_map]
 exact Nat.le_trans (List.length_filter_le _ _) (by rw [List.length_range]; exact Nat.le_refl n)
def v7 (ac bs ms qs l:aj) (i:Nat) :St:=
 db ac.length (bk ac bs ms qs) l (oV (cd i (cZ ac bs ms qs l)).length (cd i (cZ ac bs ms qs l)).length) i (o1 (cd i (cZ ac bs ms qs l)) (cd i (cZ ac bs ms qs l)).length) (o2 (cd i (cZ ac bs ms qs l)) (cd i (cZ ac bs ms qs l)).length)
def zC (ac bs ms qs l:aj) :Ex×St:=
 (.ex 0,zB (oV (cd ac.length (cZ ac bs ms qs l)).length (cd ac.length (cZ ac bs ms qs l)).length) (o1 (cd ac.length (cZ ac bs ms qs l)) (cd ac.length (cZ ac bs ms qs l)).length) (o2 (cd ac.length (cZ ac bs ms qs l)) (cd ac.length (cZ ac bs ms qs l)).length))
theorem J9 {ac bs ms qs l:aj} (hB:BK ac bs ms qs) (hl:l.length≤1000) (hp: ∀e∈l,PO ac.length e) {i:Nat} (hi:i < ac.length) (v:AV) (a1 a2:Option Ob) (app:aH) (k:aX) :
  eG ac.length ac bs ms qs l v i a1 a2 app k=cond (cZ ac bs ms qs l i) app (k .bC (db ac.length (bk ac bs ms qs) l v ((i+1:Nat) :Int) a1 a2)):=by
 have h6:=hB.n6
 have hC:rO.D [.ag false 7 l,De (i:Int)]:=⟨_,_,_,rfl,Sl.ag 7 false l,(by show l.length≤1000000; omega),fun e he=>(hp e he).z,L5.a _⟩
 have hS:Di.D [mD ac.length l,.agg (bk ac bs ms qs),.int .i64 ((i:Nat) :Int),.ag false 7 l]:=⟨ac,bs,ms,qs,i,.ag false 7 l,rfl,hB,hi,Sl.ag 7 false l,hl,hp⟩
 unfold eG
 rw [cr hi,cond_true,au hC,a8 (by omega)]
 unfold cZ
 cases h:l.any (bW (De ((i:Nat) :Int))) with
 | false=>rfl
 | true=>
  rw [cond_true,au hS,Int.toNat_natCast,Bool.true_and]
theorem Hp {ac bs ms qs l:aj} (hB:BK ac bs ms qs) (hl:l.length≤1000) (hp: ∀e∈l,PO ac.length e) {i:Nat} (hi:i < ac.length) (L m:Nat) (k:aX) :
  LB tab mu lH L (m+4) h520 dY (v7 ac bs ms qs l i) k=k .bC (v7 ac bs ms qs l (i+1)):=by
 have hn:1≤ac.length∧ac.length≤6:=⟨hB.n1,hB.n6⟩
 have hO:=Ho i (cZ ac bs ms qs l)
 unfold v7
 rw [ET]
 generalize cd i (cZ ac bs ms qs l)=O at *
 have st:=J9 hB hl hp hi
 match O with
 | []=>
  refine (L6 hn L m ac bs ms qs l i k).trans ?_
  rw [st]
  cases hP:cZ ac bs ms qs l i with
  | false=>rfl
  | true=>rw [cond_true,a8 (by omega)]; rfl
 | a::t=>
  have hr:n5 (a::t) i=true:=by
   refine decide_eq_true ?_
   rw [List.length_append,List.length_singleton]
   unfold room
   omega
  have hlen:((a::t)++[[DV.int .i64 ((i:Nat) :Int)]]).length=t.length+1+1:=by simp
  have hp1:par (t.length+1)= !par t.length:=rfl
  cases hq:par t.length with
  | true=>
   have e0:db ac.length (bk ac bs ms qs) l (oV (a::t).length (a::t).length) i (o1 (a::t) (a::t).length) (o2 (a::t) (a::t).length)=db ac.length (bk ac bs ms qs) l (.ah 34 1 0 (a::t).length) i (some (.aC 3 1 (a::t))) none:=by
    simp only [List.length_cons,oV,o1,o2,hq,cond_true]
   rw [e0,L7 hn L m ac bs ms qs l (a::t) i k,st,hr,cond_true]
   cases hP:cZ ac bs ms qs l i with
   | false=>
    rw [cond_false,cond_false,List.append_nil]
    simp only [List.length_cons,oV,o1,o2,hq,cond_true]
   | true=>
    rw [cond_true,cond_true,a8 (by omega),hlen]
    simp only [oV,o1,o2,hp1,hq,Bool.not_true,cond_false]
  | false=>
   have e0:db ac.length (bk ac bs ms qs) l (oV (a::t).length (a::t).length) i (o1 (a::t) (a::t).length) (o2 (a::t) (a::t).length)=db ac.length (bk ac bs ms qs) l (.ah 50034 1 0 (a::t).length) i none (some (.aC 3 1 (a::t))):=by
    simp only [List.length_cons,oV,o1,o2,hq,cond_false]
   rw [e0,L8 hn L m ac bs ms qs l (a::t) i k,st,hr,cond_true]
   cases hP:cZ ac bs ms qs l i with
   | false=>
    rw [cond_false,cond_false,List.append_nil]
    simp only [List.length_cons,oV,o1,o2,hq,cond_false]
   | true=>
    rw [cond_true,cond_true,a8 (by omega),hlen]
    simp only [oV,o1,o2,hp1,hq,Bool.not_false,cond_true]
theorem OD {ac bs ms qs l:aj} (hB:BK ac bs ms qs) (L m:Nat) (k:aX) :
  LB tab mu lH L (m+4) h520 dY (v7 ac bs ms qs l ac.length) k=k (zC ac bs ms qs l).1 (zC ac bs ms qs l).2:=by
 have hn:1≤ac.length∧ac.length≤6:=⟨hB.n1,hB.n6⟩
 unfold v7 zC
 generalize cd ac.length (cZ ac bs ms qs l)=O at *
 match O with
 | []=>
  refine (L6 hn L m ac bs ms qs l ac.length k).trans ?_
  unfold eG
  rw [aO,cond_false]
  rfl
 | a::t=>
  cases hq:par t.length with
  | true=>
   simp only [List.length_cons,oV,o1,o2,hq,cond_true]
   refine (L7 hn L m ac bs ms qs l (a::t) ac.length k).trans ?_
   unfold eG
   rw [aO,cond_false]
   rfl
  | false=>
   simp only [List.length_cons,oV,o1,o2,hq,cond_false]
   refine (L8 hn L m ac bs ms qs l (a::t) ac.length k).trans ?_
   unfold eG
   rw [aO,cond_false]
   rfl
theorem Dj {ac bs ms qs l:aj} (hB:BK ac bs ms qs) (hl:l.length≤1000) (hp: ∀e∈l,PO ac.length e) (L m:Nat) :
  aG (LB tab mu lH L (m+4) h520 dY) (db ac.length (bk ac bs ms qs) l (.d .af) 0 none none) (zC ac bs ms qs l):=
 eF (fun i=>v7 ac bs ms qs l i) (fun _=>zC ac bs ms qs l) ac.length (fun i hi=> .inl ⟨fun k=>Hp hB hl hp hi L m k,rfl⟩) ⟨by simp [zC],fun k=>OD hB L m k⟩ 0 (Nat.zero_le _)
def EU:aR where
 D ds:= ∃ac bs ms qs x,ds=[.agg (bk ac bs ms qs),x]∧BK ac bs ms qs∧Sl 7 x∧(ar x).length≤1000∧ ∀e∈ar x,PO ac.length e
 val ds:=match ds with | [.agg [.ag _ _ ac,.ag _ _ bs,.ag _ _ ms,.ag _ _ qs],x]=>some (.ag false 1 (cd ac.length (cZ ac bs ms qs (ar x)))) | _=>none
theorem Yc:EU.ok Tryz.prog 52:=fun ds r hD hv=>by
 obtain ⟨ac,bs,ms,qs,x,rfl,hB,hx,hl,hp⟩:=hD
 cases hv
 refine Sl.rr rfl hx ?_
 generalize ar x=l at *
 have hn:1≤ac.length∧ac.length≤6:=⟨hB.n1,hB.n6⟩
 have hL:=Dj hB hl hp 20 (0+8)
 have hM:tN.D [.int .i64 (ac.length:Nat),.ag false 7 l]:=⟨ac.length,.ag false 7 l,rfl,hB.n1,hB.n6,Sl.ag 7 false l,hl,hp⟩
 have h:=t16 hn 0 bs ms qs l
 rw [au hM] at h
 unfold xz at h
 unfold zC at hL
 generalize cd ac.length (cZ ac bs ms qs l)=O at *
 match O with
 | []=>
  refine bI.res (r:= .af) (aL (lsp:=lH) a7 xC 20 (0+12) (h.trans ?_)) (fj.nil _ _) rfl
  exact au hL
 | a::t=>
  refine bI.res (r:= .sl (.own 3) 1 (a::t)) (aL (lsp:=lH) a7 xC 20 (0+12) (h.trans ?_)) (fj.sl _ _ _) rfl
  rw [show (a::t).isEmpty=false from rfl,cond_false,show (a::t).length - 1=t.length from rfl]
  cases hq:par t.length with
  | true=>
   rw [cond_true]
   simp only [List.length_cons,oV,o1,o2,hq,cond_true] at hL
   exact (au hL).trans (r7 _)
  | false=>
   rw [cond_false]
   simp only [List.length_cons,oV,o1,o2,hq,cond_false] at hL
   exact (au hL).trans (r7 _)
def dF (i k:Int) (e:aw) :Int:=if pF e=i∧pT e=k then pA e else 0
def dP (i:Int) (e:aw) :Int:=if pF e=i∧pC e=3 then pA e else 0
def dR (i:Int) (e:aw) :Int:=if pF e=i∧pC e≠3 then pA e else 0
def Hq (l:aj) (i k s j:Int) :St:=St.of [(0,.d (.ag false 7 l)),(1,.d (.int .i64 i)),(2,.d (.int .i64 k)),(7,.d (.int .i64 s)),(8,.d (.int .i64 j))] []
def Hr (l:aj) (i s t j:Int) :St:=St.of [(0,.d (.ag false 7 l)),(1,.d (.int .i64 i)),(6,.d (.int .i64 s)),(7,.d (.int .i64 t)),(8,.d (.int .i64 j))] []
def adZ:bK:=fun st=>match st.env 0,st.env 1,st.env 2 with
 | .d (.ag _ _ l),.d (.int _ i),.d (.int _ k)=> .one (.ex 0) (St.of [(7,.d (.int .i64 (az (dF i k) l)))] [])
 | _,_,_=> .no
def ad0:bK:=fun st=>match st.env 0,st.env 1 with
 | .d (.ag _ _ l),.d (.int _ i)=> .one (.ex 0) (St.of [(6,.d (.int .i64 (az (dP i) l))),(7,.d (.int .i64 (az (dR i) l)))] [])
 | _,_=> .no
def lJ (k:Nat) :Option bK:=if k=1560 then some adZ else if k=1550 then some ad0 else none
theorem Yd (L n:Nat) (l:aj) (i k s:Int) (j:Nat) (K:aX) :LB tab aV lJ L (n+4) h1560 xr (Hq l i k s j) K=
  (bif decide ((↑j:Int) < (↑l.length:Int)) then
 aA l[j]? fun (e1:aw)=>
 bif aq Cd.bg e1 then
 bif (aa e1 1).ak==i then
 aA l[j]? fun (e5:aw)=>
 bif aq Cd.bg e5 then
 bif (aa e5 2).ak==k then
 aA l[j]? fun (e9:aw)=>
 bif aq Cd.bg e9 then
 K Ex.bC
 (St.of
 [(0,AV.d (DV.ag false 7 l)),(1,AV.d (DV.int .i64 i)),(2,AV.d (DV.int .i64 k)),
 ((7:Nat),AV.d (DV.int .i64 (IntKind.i64.wrap (s+ (aa e9 3).ak)))),
 ((8:Nat),AV.d (DV.int .i64 (IntKind.i64.wrap ((↑j:Int)+ (1:Int)))))]
 [])
 else none
 else
 K Ex.bC
 (St.of
 [(0,AV.d (DV.ag false 7 l)),(1,AV.d (DV.int .i64 i)),(2,AV.d (DV.int .i64 k)),
 ((7:Nat),AV.d (DV.int .i64 s)),(8,AV.d (DV.int .i64 (IntKind.i64.wrap ((↑j:Int)+ (1:Int)))))]
 [])
 else none
 else
 K Ex.bC
 (St.of
 [(0,AV.d (DV.ag false 7 l)),(1,AV.d (DV.int .i64 i)),(2,AV.d (DV.int .i64 k)),
 ((7:Nat),AV.d (DV.int .i64 s)),(8,AV.d (DV.int .i64 (IntKind.i64.wrap ((↑j:Int)+ (1:Int)))))]
 [])
 else none
 else K (Ex.ex (0:Nat)) (St.of [(7,AV.d (DV.int .i64 s))] [])):=by kernel_rfl
theorem Ye (L n:Nat) (l:aj) (i s t:Int) (j:Nat) (K:aX) :LB tab aV lJ L (n+4) h1550 xq (Hr l i s t j) K=
  (bif decide ((↑j:Int) < (↑l.length:Int)) then
 aA l[j]? fun (e1:aw)=>
 bif aq Cd.bg e1 then
 bif (aa e1 1).ak !=i then
 K Ex.bC
 (St.of
 [(0,AV.d (DV.ag false 7 l)),(1,AV.d (DV.int .i64 i)),(6,AV.d (DV.int .i64 s)),
 ((7:Nat),AV.d (DV.int .i64 t)),(8,AV.d (DV.int .i64 (IntKind.i64.wrap ((↑j:Int)+ (1:Int)))))]
 [])
 else
 aA l[j]? fun (e5:aw)=>
 bif aq Cd.bg e5 then
 bif (aa e5 4).ak==(3:Int) then
 aA l[j]? fun (e9:aw)=>
 bif aq Cd.bg e9 then
 K Ex.bC
 (St.of
 [(0,AV.d (DV.ag false 7 l)),(1,AV.d (DV.int .i64 i)),
 ((6:Nat),AV.d (DV.int .i64 (IntKind.i64.wrap (s+ (aa e9 3).ak)))),(7,AV.d (DV.int .i64 t)),
 ((8:Nat),AV.d (DV.int .i64 (IntKind.i64.wrap ((↑j:Int)+ (1:Int)))))]
 [])
 else none
 else
 aA l[j]? fun (e9:aw)=>
 bif aq Cd.bg e9 then
 K Ex.bC
 (St.of
 [(0,AV.d (DV.ag false 7 l)),(1,AV.d (DV.int .i64 i)),(6,AV.d (DV.int .i64 s)),
 ((7:Nat),AV.d (DV.int .i64 (IntKind.i64.wrap (t+ (aa e9 3).ak)))),
 ((8:Nat),AV.d (DV.int .i64 (IntKind.i64.wrap ((↑j:Int)+ (1:Int)))))]
 [])
 else none
 else none
 else none
 else K (Ex.ex (0:Nat)) (St.of [(6,AV.d (DV.int .i64 s)),(7,AV.d (DV.int .i64 t))] [])):=by kernel_rfl
theorem t44 (n:Nat) (l:aj) (i k:Int) :FK tab aV lJ 20 (n+8) 156 [.ag false 7 l,.int .i64 i,.int .i64 k]=
  (aP
 (aG (LB tab aV lJ (20:Nat) (n+ (8:Nat)) h1560 xr)
 (St.of
 [(0,AV.d (DV.ag false 7 l)),(1,AV.d (DV.int .i64 i)),(2,AV.d (DV.int .i64 k)),
 ((7:Nat),AV.d (DV.int .i64 0)),(8,AV.d (DV.int .i64 0))]
 [])
 (Ex.ex (0:Nat),St.of [(7,AV.d (DV.int .i64 (az (dF i k) l)))] []))
 (some (DV.int .i64 (az (dF i k) l)))):=by kernel_rfl
theorem t42 (n:Nat) (l:aj) (i:Int) :FK tab aV lJ 20 (n+8) 155 [.ag false 7 l,.int .i64 i]=
  (aP
 (aG (LB tab aV lJ (20:Nat) (n+ (8:Nat)) h1550 xq)
 (St.of
 [(0,AV.d (DV.ag false 7 l)),(1,AV.d (DV.int .i64 i)),(6,AV.d (DV.int .i64 0)),
 ((7:Nat),AV.d (DV.int .i64 0)),(8,AV.d (DV.int .i64 0))]
 [])
 (Ex.ex (0:Nat),St.of [(6,AV.d (DV.int .i64 (az (dP i) l))),(7,AV.d (DV.int .i64 (az (dR i) l)))] []))
 (some (DV.tuple [DV.int .i64 (az (dP i) l),DV.int .i64 (az (dR i) l)]))):=by kernel_rfl
def v8:aR where
 D ds:= ∃n l i k,ds=[.ag false 7 l,.int .i64 i,.int .i64 k]∧l.length≤1000∧ ∀e∈l,PO n e
 val ds:=match ds with | [.ag _ _ l,.int _ i,.int _ k]=>some (.int .i64 (az (dF i k) l)) | _=>none
def OE:aR where
 D ds:= ∃n l i,ds=[.ag false 7 l,.int .i64 i]∧l.length≤1000∧ ∀e∈l,PO n e
 val ds:=match ds with | [.ag _ _ l,.int _ i]=>some (.tuple [.int .i64 (az (dP i) l),.int .i64 (az (dR i) l)]) | _=>none
def cf (g:Nat→Int) :Nat→Int
 | 0=>0
 | k+1=>cf g k+g k
def jH (l:aj) (i k:Int) :Int:=az (dF i k) l - az (dF k i) l
def zD (bs qs l:aj) (i k:Nat) :Bool:=bif bif decide (az (dF i k) l > (0:Int)) then kW bs i k != -1 else false then decide (kW qs i k+jH l i k > kW bs i k) else false
def BE (l:aj) (i:Int) (b:aw) (p s n ru k:Int) :St:=St.of [(1,.d (.ag false 7 l)),(2,.d (.int .i64 i)),(3,.d (.aI b 0)),(7,.d (.int .i64 p)),(8,.d (.int .i64 s)),(9,.d (.int .i64 n)),(10,.d (.int .i64 ru)),(11,.d (.int .i64 k))] [(16,none),(38,none),(3,none)]
def Yf (i:Int) (b:aw) (p s n ru:Int) :St:=St.of [(2,.d (.int .i64 i)),(3,.d (.aI b 0)),(7,.d (.int .i64 p)),(8,.d (.int .i64 s)),(9,.d (.int .i64 n)),(10,.d (.int .i64 ru))] [(16,none),(38,none),(3,none)]
def ad1:bK:=fun st=>match st.env 1,st.env 2,st.env 3,st.env 7,st.env 8,st.env 9,st.env 10 with
 | .d (.ag _ _ l),.d (.int _ i),.d (.aI [.ag k1 s1 ac,.ag k2 s2 bs,.ag k3 s3 ms,.ag k4 s4 qs] o),.d (.int _ p),.d (.int _ s),.d (.int _ n),.d (.int _ ru)=>
  .br (jG (fun k=> !zD bs qs l i.toNat k) ac.length 0)
   (.one (.ex 0) (Yf i [.ag k1 s1 ac,.ag k2 s2 bs,.ag k3 s3 ms,.ag k4 s4 qs] p s (n - cf (fun k=>jH l i k) ac.length) (ru+cf (fun k=>jH l i k) ac.length)))
   (.one .ret (St.of [(6,.d (.bool true))] []))
 | _,_,_,_,_,_,_=> .no
def lK (k:Nat) :Option bK:=if k=950 then some ad1 else none
def OF:aR where
 D ds:= ∃ac bs ms qs i,ds=[.agg (bk ac bs ms qs),.int .i64 ((i:Nat) :Int)]∧BK ac bs ms qs∧i < ac.length
 val ds:=match ds with | [.agg [.ag _ _ ac,.ag _ _ bs,.ag _ _ ms,.ag _ _ qs],.int _ i]=>some (.int .i64 (cj (rw qs i.toNat))) | _=>none
noncomputable def QV:FuncId→Option aR:=bL 156 v8 (bL 155 OE (bL 13 OF aV))
theorem Yg (L m:Nat) (l ac bs ms qs:aj) (i:Nat) (p s n ru:Int) (k:Nat) (K:aX) :LB tab QV lK L (m+4) h950 zw (BE l i (bk ac bs ms qs) p s n ru k) K=
  (bif decide ((↑k:Int) < (↑ac.length:Int)) then
 aP (v8.D [DV.ag false 7 l,DV.int .i64 (↑i:Int),DV.int .i64 (↑k:Int)])
 (aP (v8.D [DV.ag false 7 l,DV.int .i64 (↑k:Int),DV.int .i64 (↑i:Int)])
 (aP (v8.D [DV.ag false 7 l,DV.int .i64 (↑i:Int),DV.int .i64 (↑k:Int)])
 (bif decide (az (dF (↑i:Int) (↑k:Int)) l > (0:Int)) then
 aA bs[i]? fun (e5:aw)=>
 bif aq Cd.bl e5 then
 bif decide ((1:Nat)=(aa e5 0).B9) then
 aA (aa e5 0).pK[k]? fun (e9:aw)=>
 bif aq Cd.aB e9 then
 bif (aa e9 0).ak !=(-1:Int) then
 aA qs[i]? fun (tL:aw)=>
 bif aq Cd.bl tL then
 bif decide ((1:Nat)=(aa tL 0).B9) then
 aA (aa tL 0).pK[k]? fun (e17:aw)=>
 bif aq Cd.aB e17 then
 aA bs[i]? fun (e20:aw)=>
 bif aq Cd.bl e20 then
 bif decide ((1:Nat)=(aa e20 0).B9) then
 aA (aa e20 0).pK[k]? fun (e24:aw)=>
 bif aq Cd.aB e24 then
 bif
 decide
 (IntKind.i64.wrap
 ((aa e17 0).ak+
 IntKind.i64.wrap (az (dF (↑i:Int) (↑k:Int)) l - az (dF (↑k:Int) (↑i:Int)) l)) >
 (aa e24 0).ak) then
 K Ex.ret (St.of [(6,AV.d (DV.bool true))] [])
 else
 K Ex.bC
 (St.of
 [(1,AV.d (DV.ag false 7 l)),(2,AV.d (DV.int .i64 (↑i:Int))),
 ((3:Nat),
 AV.d
 (DV.aI
 [DV.ag false 3 ac,DV.ag false 1 bs,DV.ag false 1 ms,
 DV.ag false 1 qs]
 (0:Nat))),
 ((7:Nat),AV.d (DV.int .i64 p)),(8,AV.d (DV.int .i64 s)),
 ((9:Nat),
 AV.d
 (DV.int .i64
 (IntKind.i64.wrap
 (n -
 IntKind.i64.wrap (az (dF (↑i:Int) (↑k:Int)) l - az (dF (↑k:Int) (↑i:Int)) l))))),
 ((10:Nat),
 AV.d
 (DV.int .i64
 (IntKind.i64.wrap
 (ru+
 IntKind.i64.wrap (az (dF (↑i:Int) (↑k:Int)) l - az (dF (↑k:Int) (↑i:Int)) l))))),
 ((11:Nat),AV.d (DV.int .i64 (IntKind.i64.wrap ((↑k:Int)+ (1:Int)))))]
 [(16,none),(38,none),(3,none)])
 else none
 else none
 else none
 else none
 else none
 else none
 else
 K Ex.bC
 (St.of
 [(1,AV.d (DV.ag false 7 l)),(2,AV.d (DV.int .i64 (↑i:Int))),
 ((3:Nat),
 AV.d
 (DV.aI [DV.ag false 3 ac,DV.ag false 1 bs,DV.ag false 1 ms,DV.ag false 1 qs]
 (0:Nat))),
 ((7:Nat),AV.d (DV.int .i64 p)),(8,AV.d (DV.int .i64 s)),
 ((9:Nat),
 AV.d
 (DV.int .i64
 (IntKind.i64.wrap (n - IntKind.i64.wrap (az (dF (↑i:Int) (↑k:Int)) l - az (dF (↑k:Int) (↑i:Int)) l))))),
 ((10:Nat),
 AV.d
 (DV.int .i64
 (IntKind.i64.wrap (ru+IntKind.i64.wrap (az (dF (↑i:Int) (↑k:Int)) l - az (dF (↑k:Int) (↑i:Int)) l))))),
 ((11:Nat),AV.d (DV.int .i64 (IntKind.i64.wrap ((↑k:Int)+ (1:Int)))))]
 [(16,none),(38,none),(3,none)])
 else none
 else none
 else none
 else
 K Ex.bC
 (St.of
 [(1,AV.d (DV.ag false 7 l)),(2,AV.d (DV.int .i64 (↑i:Int))),
 ((3:Nat),
 AV.d (DV.aI [DV.ag false 3 ac,DV.ag false 1 bs,DV.ag false 1 ms,DV.ag false 1 qs] (0:Nat))),
 ((7:Nat),AV.d (DV.int .i64 p)),(8,AV.d (DV.int .i64 s)),
 ((9:Nat),
 AV.d
 (DV.int .i64
 (IntKind.i64.wrap (n - IntKind.i64.wrap (az (dF (↑i:Int) (↑k:Int)) l - az (dF (↑k:Int) (↑i:Int)) l))))),
 ((10:Nat),
 AV.d
 (DV.int .i64
 (IntKind.i64.wrap (ru+IntKind.i64.wrap (az (dF (↑i:Int) (↑k:Int)) l - az (dF (↑k:Int) (↑i:Int)) l))))),
 ((11:Nat),AV.d (DV.int .i64 (IntKind.i64.wrap ((↑k:Int)+ (1:Int)))))]
 [(16,none),(38,none),(3,none)]))))
 else
 K (Ex.ex (0:Nat))
 (St.of
 [(2,AV.d (DV.int .i64 (↑i:Int))),
 ((3:Nat),AV.d (DV.aI [DV.ag false 3 ac,DV.ag false 1 bs,DV.ag false 1 ms,DV.ag false 1 qs] (0:Nat))),
 ((7:Nat),AV.d (DV.int .i64 p)),(8,AV.d (DV.int .i64 s)),(9,AV.d (DV.int .i64 n)),
 ((10:Nat),AV.d (DV.int .i64 ru))]
 [(16,none),(38,none),(3,none)])):=by kernel_rfl
theorem t32 (m:Nat) (ac bs ms qs l:aj) (i:Nat) :FK tab QV lK 20 (m+12) 95 [.agg (bk ac bs ms qs),.ag false 7 l,.int .i64 ((i:Nat) :Int)]=
  (aP (OE.D [DV.ag false 7 l,DV.int .i64 (↑i:Int)])
 (bif IntKind.i64.wrap (az (dP (↑i:Int)) l+az (dR (↑i:Int)) l)==(0:Int) then some (DV.bool false)
 else
 aA ac[i]? fun (e2:aw)=>
 bif aq Cd.fk e2 then
 aA ac[i]? fun (e5:aw)=>
 bif aq Cd.fk e5 then
 aP
 (OF.D
 [DV.agg [DV.ag false 3 ac,DV.ag false 1 bs,DV.ag false 1 ms,DV.ag false 1 qs],DV.int .i64 (↑i:Int)])
 (bif jG (fun (k:Nat)=> !zD bs qs l i k) ac.length (0:Nat) then
 aP
 (aG (LB tab QV lK (20:Nat) (m+ (12:Nat)) h950 zw)
 (St.of
 [(1,AV.d (DV.ag false 7 l)),(2,AV.d (DV.int .i64 (↑i:Int))),
 ((3:Nat),
 AV.d
 (DV.aI [DV.ag false 3 ac,DV.ag false 1 bs,DV.ag false 1 ms,DV.ag false 1 qs]
 (0:Nat))),
 ((7:Nat),AV.d (DV.int .i64 (az (dP (↑i:Int)) l))),(8,AV.d (DV.int .i64 (az (dR (↑i:Int)) l))),
 ((9:Nat),AV.d (DV.int .i64 (IntKind.i64.wrap ((aa e2 0).ak+ (aa e5 1).ak)))),
 ((10:Nat),AV.d (DV.int .i64 (cj (rw qs i)))),(11,AV.d (DV.int .i64 0))]
 [(16,none),(38,none),(3,none)])
 (Ex.ex (0:Nat),
 St.of
 [(2,AV.d (DV.int .i64 (↑i:Int))),
 ((3:Nat),
 AV.d
 (DV.aI [DV.ag false 3 ac,DV.ag false 1 bs,DV.ag false 1 ms,DV.ag false 1 qs]
 (0:Nat))),
 ((7:Nat),AV.d (DV.int .i64 (az (dP (↑i:Int)) l))),(8,AV.d (DV.int .i64 (az (dR (↑i:Int)) l))),
 ((9:Nat),
 AV.d
 (DV.int .i64
 (IntKind.i64.wrap ((aa e2 0).ak+ (aa e5 1).ak) -
 cf (fun (k:Nat)=>jH l (↑i:Int) (↑k:Int)) ac.length))),
 ((10:Nat),AV.d (DV.int .i64 (cj (rw qs i)+cf (fun (k:Nat)=>jH l (↑i:Int) (↑k:Int)) ac.length)))]
 [(16,none),(38,none),(3,none)]))
 (bif
 decide
 (IntKind.i64.wrap ((aa e2 0).ak+ (aa e5 1).ak) -
 cf (fun (k:Nat)=>jH l (↑i:Int) (↑k:Int)) ac.length <
 (0:Int)) then
 bif decide (az (dP (↑i:Int)) l > (0:Int)) then some (DV.bool true) else some (DV.bool true)
 else
 bif decide (az (dP (↑i:Int)) l > (0:Int)) then
 aA ac[i]? fun (tL:aw)=>
 bif aq Cd.fk tL then
 bif decide (az (dR (↑i:Int)) l≥(aa tL 2).ak) then
 bif
 decide
 (IntKind.i64.wrap ((aa e2 0).ak+ (aa e5 1).ak) -
 cf (fun (k:Nat)=>jH l (↑i:Int) (↑k:Int)) ac.length <
 (0:Int)) then
 some (DV.bool true)
 else
 aA ms[i]? fun (k9:aw)=>
 bif aq Cd.aB k9 then
 bif (aa k9 0).ak !=(-1:Int) then
 aA ms[i]? fun (cl:aw)=>
 bif aq Cd.aB cl then
 some
 (DV.bool
 (decide
 (cj (rw qs i)+cf (fun (k:Nat)=>jH l (↑i:Int) (↑k:Int)) ac.length >
 (aa cl 0).ak)))
 else none
 else some (DV.bool false)
 else none
 else
 bif
 decide
 (IntKind.i64.wrap ((aa e2 0).ak+ (aa e5 1).ak) -
 cf (fun (k:Nat)=>jH l (↑i:Int) (↑k:Int)) ac.length <
 IntKind.i64.wrap ((aa tL 2).ak - az (dR (↑i:Int)) l)) then
 some (DV.bool true)
 else
 aA ms[i]? fun (k9:aw)=>
 bif aq Cd.aB k9 then
 bif (aa k9 0).ak !=(-1:Int) then
 aA ms[i]? fun (cl:aw)=>
 bif aq Cd.aB cl then
 some
 (DV.bool
 (decide
 (cj (rw qs i)+cf (fun (k:Nat)=>jH l (↑i:Int) (↑k:Int)) ac.length >
 (aa cl 0).ak)))
 else none
 else some (DV.bool false)
 else none
 else none
 else
 aA ms[i]? fun (k9:aw)=>
 bif aq Cd.aB k9 then
 bif (aa k9 0).ak !=(-1:Int) then
 aA ms[i]? fun (cl:aw)=>
 bif aq Cd.aB cl then
 some
 (DV.bool
 (decide (cj (rw qs i)+cf (fun (k:Nat)=>jH l (↑i:Int) (↑k:Int)) ac.length > (aa cl 0).ak)))
 else none
 else some (DV.bool false)
 else none)
 else
 aP
 (aG (LB tab QV lK (20:Nat) (m+ (12:Nat)) h950 zw)
 (St.of
 [(1,AV.d (DV.ag false 7 l)),(2,AV.d (DV.int .i64 (↑i:Int))),
 ((3:Nat),
 AV.d
 (DV.aI [DV.ag false 3 ac,DV.ag false 1 bs,DV.ag false 1 ms,DV.ag false 1 qs]
 (0:Nat))),
 ((7:Nat),AV.d (DV.int .i64 (az (dP (↑i:Int)) l))),(8,AV.d (DV.int .i64 (az (dR (↑i:Int)) l))),
 ((9:Nat),AV.d (DV.int .i64 (IntKind.i64.wrap ((aa e2 0).ak+ (aa e5 1).ak)))),
 ((10:Nat),AV.d (DV.int .i64 (cj (rw qs i)))),(11,AV.d (DV.int .i64 0))]
 [(16,none),(38,none),(3,none)])
 (Ex.ret,St.of [(6,AV.d (DV.bool true))] []))
 (some (DV.bool true)))
 else none
 else none)):=by kernel_rfl
theorem PO.dF {n:Nat} {e:aw} (h:PO n e) (i k:Int) :0≤dF i k e∧dF i k e≤1099511627776:=by
 have :=h.a0
 have :=h.a1
 unfold Go.Proofs.YtglbgfcegifeeaaGreat.Fz.dF
 split<;>omega
theorem PO.dP {n:Nat} {e:aw} (h:PO n e) (i:Int) :0≤dP i e∧dP i e≤1099511627776:=by
 have :=h.a0
 have :=h.a1
 unfold Go.Proofs.YtglbgfcegifeeaaGreat.Fz.dP
 split<;>omega
theorem PO.dR {n:Nat} {e:aw} (h:PO n e) (i:Int) :0≤dR i e∧dR i e≤1099511627776:=by
 have :=h.a0
 have :=h.a1
 unfold Go.Proofs.YtglbgfcegifeeaaGreat.Fz.dR
 split<;>omega
theorem n7 {n:Nat} {l:aj} (hl:l.length≤1000) (hp: ∀e∈l,PO n e) {φ:aw→Int} (hφ: ∀e,PO n e→0≤φ e∧φ e≤1099511627776) (j:Nat) :0≤az φ (l.take j)∧az φ (l.take j)≤1099511627776000:=by
 have hlen:(l.take j).length≤1000:=by rw [List.length_take]; omega
 have h1:=mR hlen (fun e he=>hp e (List.mem_of_mem_take he)) φ fun e he=>by have :=hφ e he; omega
 exact ⟨gh fun e he=>(hφ e (hp e (List.mem_of_mem_take he))).1,h1.2⟩
theorem J' (L m:Nat) {n:Nat} {l:aj} (hl:l.length≤1000) (hp: ∀e∈l,PO n e) (i k:Int) :
  aG (LB tab aV lJ L (m+4) h1560 xr) (Hq l i k 0 0) (.ex 0,St.of [(7,.d (.int .i64 (az (dF i k) l)))] []):=by
 have h0:Hq l i k 0 0=Hq l i k (az (dF i k) (l.take 0)) ((0:Nat) :Int):=rfl
 rw [h0]
 refine ez (fun j:Nat=>Hq l i k (az (dF i k) (l.take j)) (j:Nat)) (fun j=>l.length - j) (fun j=>j≤l.length) (fun _=>(.ex 0,St.of [(7,.d (.int .i64 (az (dF i k) l)))] [])) (fun j hs=> ?_) 0 (Nat.zero_le _)
 by_cases hj:j < l.length
 ·left
  refine ⟨j+1,hj,by omega,rfl,fun K=> ?_⟩
  have hP:=hp _ (List.getElem_mem hj)
  have b:=n7 hl hp (φ:=dF i k) (fun e he=>he.dF i k) j
  have a0:=hP.a0
  have a1:=hP.a1
  have e1:(aa l[j] 1).ak=pF l[j]:=rfl
  have e2:(aa l[j] 2).ak=pT l[j]:=rfl
  have e3:(aa l[j] 3).ak=pA l[j]:=rfl
  rw [j5 hj,Yd,cr hj,cond_true,a8 (by omega)]
  simp only [bf hj,hP.z,cond_true,e1,e2,e3]
  have hd:dF i k l[j]=if pF l[j]=i∧pT l[j]=k then pA l[j] else 0:=rfl
  rw [hd]
  cases h1:(pF l[j]==i) with
  | false=>
   rw [if_neg fun h=>(beq_eq_false_iff_ne.1 h1) h.1,Int.add_zero]
   rfl
  | true=>
   cases h2:(pT l[j]==k) with
   | false=>
    rw [if_neg fun h=>(beq_eq_false_iff_ne.1 h2) h.2,Int.add_zero]
    rfl
   | true=>
    rw [if_pos ⟨eq_of_beq h1,eq_of_beq h2⟩,bx (by omega) (by omega)]
    rfl
 ·right
  have :j=l.length:=by omega
  subst this
  refine ⟨by simp,fun K=> ?_⟩
  rw [Yd,aO,List.take_length]
  rfl
theorem OG:v8.ok Tryz.prog 156:=fun ds r hD hv=>by
 obtain ⟨n,l,i,k,rfl,hl,hp⟩:=hD
 cases hv
 exact aL (lsp:=lJ) a7 aY 20 (0+8) ((t44 0 l i k).trans (au (J' 20 (0+4) hl hp i k)))
theorem Ka (L m:Nat) {n:Nat} {l:aj} (hl:l.length≤1000) (hp: ∀e∈l,PO n e) (i:Int) :
  aG (LB tab aV lJ L (m+4) h1550 xq) (Hr l i 0 0 0) (.ex 0,St.of [(6,.d (.int .i64 (az (dP i) l))),(7,.d (.int .i64 (az (dR i) l)))] []):=by
 have h0:Hr l i 0 0 0=Hr l i (az (dP i) (l.take 0)) (az (dR i) (l.take 0)) ((0:Nat) :Int):=rfl
 rw [h0]
 refine ez (fun j:Nat=>Hr l i (az (dP i) (l.take j)) (az (dR i) (l.take j)) (j:Nat)) (fun j=>l.length - j) (fun j=>j≤l.length) (fun _=>(.ex 0,St.of [(6,.d (.int .i64 (az (dP i) l))),(7,.d (.int .i64 (az (dR i) l)))] [])) (fun j hs=> ?_) 0 (Nat.zero_le _)
 by_cases hj:j < l.length
 ·left
  refine ⟨j+1,hj,by omega,rfl,fun K=> ?_⟩
  have hP:=hp _ (List.getElem_mem hj)
  have b:=n7 hl hp (φ:=dP i) (fun e he=>he.dP i) j
  have b':=n7 hl hp (φ:=dR i) (fun e he=>he.dR i) j
  have a0:=hP.a0
  have a1:=hP.a1
  have e1:(aa l[j] 1).ak=pF l[j]:=rfl
  have e2:(aa l[j] 4).ak=pC l[j]:=rfl
  have e3:(aa l[j] 3).ak=pA l[j]:=rfl
  rw [j5 hj,j5 hj,Ye,cr hj,cond_true,a8 (by omega)]
  simp only [bf hj,hP.z,cond_true,e1,e2,e3]
  have hd:dP i l[j]=if pF l[j]=i∧pC l[j]=3 then pA l[j] else 0:=rfl
  have ie:dR i l[j]=if pF l[j]=i∧pC l[j]≠3 then pA l[j] else 0:=rfl
  rw [hd,ie]
  cases h1:(pF l[j] !=i) with
  | true=>
   rw [if_neg fun h=>(bne_iff_ne.1 h1) h.1,if_neg fun h=>(bne_iff_ne.1 h1) h.1,Int.add_zero,Int.add_zero]
   rfl
  | false=>
   have Ln:=bne_eq_false_iff_eq.1 h1
   cases h2:(pC l[j]==3) with
   | false=>
    have QJ:=beq_eq_false_iff_ne.1 h2
    rw [if_neg fun h=>QJ h.2,if_pos ⟨Ln,QJ⟩,Int.add_zero,bx (n:=az (dR i) (l.take j)+pA l[j]) (by omega) (by omega)]
    rfl
   | true=>
    have QJ:=eq_of_beq h2
    rw [if_pos ⟨Ln,QJ⟩,if_neg fun h=>h.2 QJ,Int.add_zero,bx (by omega) (by omega)]
    rfl
 ·right
  have :j=l.length:=by omega
  subst this
  refine ⟨by simp,fun K=> ?_⟩
  rw [Ye,aO,List.take_length]
  rfl
theorem Yh:OE.ok Tryz.prog 155:=fun ds r hD hv=>by
 obtain ⟨n,l,i,rfl,hl,hp⟩:=hD
 cases hv
 exact aL (lsp:=lJ) a7 aY 20 (0+8) ((t42 0 l i).trans (au (Ka 20 (0+4) hl hp i)))
theorem OH:OF.ok Tryz.prog 13:=fun ds r hD hv=>by
 obtain ⟨ac,bs,ms,qs,i,rfl,hB,hi⟩:=hD
 exact XT _ r (hB.ru hi).1 hv
theorem OI: ∀f s,QV f=some s→s.ok Tryz.prog f:=aM OG (aM Yh (aM OH aY))
theorem tO {φ ψ:aw→Int} : ∀l:aj,az (fun e=>φ e+ψ e) l=az φ l+az ψ l
 | []=>rfl
 | e::l=>by
  have :=tO (φ:=φ) (ψ:=ψ) l
  simp only [az]
  omega
theorem tP {φ ψ:aw→Int} : ∀l:aj,az (fun e=>φ e - ψ e) l=az φ l - az ψ l
 | []=>rfl
 | e::l=>by
  have :=tP (φ:=φ) (ψ:=ψ) l
  simp only [az]
  omega
theorem n8 {φ ψ:aw→Int} : ∀{l:aj},(∀e∈l,φ e=ψ e)→az φ l=az ψ l
 | [],_=>rfl
 | e::l,h=>by
  simp only [az]
  rw [h e (by simp),n8 fun r hr=>h r (List.mem_cons.2 (.inr hr))]
theorem wb: ∀l:aj,az (fun _=>0) l=0
 | []=>rfl
 | e::l=>by simp only [az,wb l]; rfl
theorem fT {g h:Nat→Int} : ∀{n:Nat},(∀k,k < n→g k=h k)→cf g n=cf h n
 | 0,_=>rfl
 | n+1,e=>by
  simp only [cf]
  rw [fT fun k hk=>e k (by omega),e n (by omega)]
theorem zE {g h:Nat→Int} : ∀n:Nat,cf (fun k=>g k - h k) n=cf g n - cf h n
 | 0=>rfl
 | n+1=>by
  have :=zE (g:=g) (h:=h) n
  simp only [cf]
  omega
theorem qB {φ:Nat→aw→Int} (l:aj) : ∀n:Nat,cf (fun k=>az (φ k) l) n=az (fun e=>cf (fun k=>φ k e) n) l
 | 0=>(wb l).symm
 | n+1=>by
  simp only [cf]
  rw [qB l n,tO]
theorem mw (a c:Int) : ∀n:Nat,cf (fun k=>if a=(k:Int) then c else 0) n=if 0≤a∧a < n then c else 0
 | 0=>by
  rw [if_neg (by omega)]
  rfl
 | n+1=>by
  simp only [cf]
  rw [mw a c n]
  split<;>split<;>split<;>omega
theorem zF (a b:aj) :cj (a++b)=cj a+cj b:=by
 induction a with
 | nil=>simp [cj]
 | cons x a ih=>
  simp only [List.cons_append,cj,ih]
  omega
theorem tQ (g:Nat→Int) : ∀n:Nat,cj (cells n g)=cf g n
 | 0=>rfl
 | n+1=>by
  have h:cells (n+1) g=cells n g++[[.int .i64 (g n)]]:=by
   unfold cells
   rw [List.range_succ,List.map_append]
   rfl
  rw [h,zF,tQ g n]
  simp only [cf,cj,Int.add_zero]
  rfl
theorem my {φ:aw→Int} : ∀{l:aj},(∀e∈l,0≤φ e)→(0 < az φ l↔ ∃e∈l,0 < φ e)
 | [],_=>by simp [az]
 | e::l,h=>by
  have h1:=h e (by simp)
  have ih:=my (φ:=φ) (l:=l) fun r hr=>h r (List.mem_cons.2 (.inr hr))
  have h2:0≤az φ l:=gh fun r hr=>h r (List.mem_cons.2 (.inr hr))
  simp only [az,List.mem_cons,exists_eq_or_imp]
  rw [← ih]
  omega
theorem xD {q:Nat→Bool} : ∀{c i:Nat},(∀j,i≤j→j < i+c→q j=true)→jG q c i=true
 | 0,_,_=>rfl
 | c+1,i,h=>by
  show (q i&&jG q c (i+1))=true
  rw [h i (by omega) (by omega),Bool.true_and]
  exact xD fun j h1 h2=>h j (by omega) (by omega)
theorem Hs {q:Nat→Bool} {n:Nat} :jG (fun k=> !q k) n 0=false↔ ∃k,k < n∧q k=true:=by
 constructor
 ·intro h
  refine Classical.byContradiction fun hn=> ?_
  have :jG (fun k=> !q k) n 0=true:=xD fun j _ h2=>by
   cases hq:q j with
   | false=>rfl
   | true=>exact absurd ⟨j,by omega,hq⟩ hn
  rw [this] at h
  cases h
 ·rintro ⟨k,h1,h2⟩
  refine Bool.eq_false_iff.2 fun h=> ?_
  have :=xu h k (Nat.zero_le _) (by omega)
  rw [h2] at this
  cases this
theorem Ht (l:aj) (i t:Nat) :az (dQ i t) l=jH l i t:=(tP (φ:=dF i t) (ψ:=dF t i) l).symm ▸ rfl
theorem Yi {n:Nat} {l:aj} (hp: ∀e∈l,PO n e) {i:Nat} (hi:i < n) :az (dM i) l=0 - cf (fun k=>jH l i k) n:=by
 have h1:cf (fun k:Nat=>az (dF i k) l) n=az (fun e=>if pF e=i then pA e else 0) l:=by
  rw [qB]
  refine n8 fun e he=> ?_
  have hP:=hp e he
  have h0:=hP.t0
  have h1:=hP.t1
  by_cases hf:pF e=(i:Int)
  ·rw [if_pos hf,fT (h:=fun k:Nat=>if pT e=(k:Int) then pA e else 0) fun k _=>by simp only [dF,hf,true_and],mw,if_pos ⟨h0,h1⟩]
  ·rw [if_neg hf,fT (h:=fun k:Nat=>if (-1:Int)=(k:Int) then pA e else 0) fun k _=>by simp only [dF,hf,false_and,if_false]; rw [if_neg (by omega)],mw,if_neg (by omega)]
 have h2:cf (fun k:Nat=>az (dF k i) l) n=az (fun e=>if pT e=i then pA e else 0) l:=by
  rw [qB]
  refine n8 fun e he=> ?_
  have hP:=hp e he
  have h0:=hP.f0
  have h1:=hP.f1
  by_cases hf:pT e=(i:Int)
  ·rw [if_pos hf,fT (h:=fun k:Nat=>if pF e=(k:Int) then pA e else 0) fun k _=>by simp only [dF,hf,and_true],mw,if_pos ⟨h0,h1⟩]
  ·rw [if_neg hf,fT (h:=fun k:Nat=>if (-1:Int)=(k:Int) then pA e else 0) fun k _=>by simp only [dF,hf,and_false,if_false]; rw [if_neg (by omega)],mw,if_neg (by omega)]
 have h3:cf (fun k:Nat=>jH l i k) n=cf (fun k:Nat=>az (dF i k) l) n - cf (fun k:Nat=>az (dF k i) l) n:=zE n
 have h4:az (dM i) l=az (fun e=>if pT e=i then pA e else 0) l - az (fun e=>if pF e=i then pA e else 0) l:=tP l
 rw [h3,h4,h1,h2]
 omega
theorem zG {φ:aw→Bool} {l:aj} :l.any φ=true↔ ∃e∈l,φ e=true:=List.any_eq_true
theorem EV {n:Nat} {l:aj} (hp: ∀e∈l,PO n e) (i:Nat) :l.any (bW (De (i:Nat)))= !(az (dP i) l+az (dR i) l==0):=by
 have h1:az (dP i) l+az (dR i) l=az (fun e=>dP i e+dR i e) l:=(tO l).symm
 have hn: ∀e∈l,0≤dP i e+dR i e:=fun e he=>by
  have :=(hp e he).dP i
  have :=(hp e he).dR i
  omega
 have h0:=gh hn
 have jT:=my hn
 have key:(l.any (bW (De (i:Nat)))=true)↔0 < az (fun e=>dP i e+dR i e) l:=by
  rw [jT,zG]
  refine exists_congr fun e=>and_congr_right fun he=> ?_
  have a0:=(hp e he).a0
  show (pF e==(i:Int))=true↔_
  rw [beq_iff_eq]
  unfold dP dR
  by_cases hf:pF e=(i:Int)
  ·by_cases hc:pC e=3
   ·rw [if_pos ⟨hf,hc⟩,if_neg fun h=>h.2 hc]
    omega
   ·rw [if_neg fun h=>hc h.2,if_pos ⟨hf,hc⟩]
    omega
  ·rw [if_neg fun h=>hf h.1,if_neg fun h=>hf h.1]
   omega
 rw [h1]
 cases ha:l.any (bW (De (i:Nat))) with
 | true=>
  have :=key.1 ha
  rw [show (az (fun e=>dP i e+dR i e) l==0)=false from beq_eq_false_iff_ne.2 (by omega)]
  rfl
 | false=>
  have : ¬ 0 < az (fun e=>dP i e+dR i e) l:=fun h=>by rw [key.2 h] at ha; cases ha
  rw [show (az (fun e=>dP i e+dR i e) l)=0 from Int.le_antisymm (Int.not_lt.1 this) h0]
  rfl
theorem OJ {ac bs ms qs l:aj} (hp: ∀e∈l,PO ac.length e) {i:Nat} (hi:i < ac.length) :
  l.any (eB ac bs qs l i)=((decide (az (dP i) l > 0)&&decide (BC ac l i < cI (ka ac i 2) (az (dS i) l)))|| !jG (fun k=> !zD bs qs l i k) ac.length 0):=by
 refine Bool.eq_iff_iff.2 ?_
 rw [zG,Bool.or_eq_true,Bool.not_eq_true',Hs,Bool.and_eq_true,decide_eq_true_eq,decide_eq_true_eq]
 have hP:=my (φ:=dP i) (l:=l) fun e he=>((hp e he).dP i).1
 constructor
 ·rintro ⟨e,he,h⟩
  have hPo:=hp e he
  unfold eB at h
  obtain ⟨hf,h⟩:=Bool.and_eq_true_iff.1 h
  have hf:=eq_of_beq hf
  rcases (Bool.or_eq_true_iff).1 h with h | h
  ·obtain ⟨h1,h2⟩:=Bool.and_eq_true_iff.1 h
   refine .inl ⟨hP.2 ⟨e,he,?_⟩,of_decide_eq_true h2⟩
   unfold dP
   rw [if_pos ⟨hf,eq_of_beq h1⟩]
   have :=hPo.a0
   omega
  ·obtain ⟨h1,h2⟩:=Bool.and_eq_true_iff.1 h
   obtain ⟨t,ht⟩ : ∃t:Nat,pT e=(t:Nat):=⟨(pT e).toNat,by have :=hPo.t0; omega⟩
   have r6:t < ac.length:=by have :=hPo.t1; omega
   refine .inr ⟨t,r6,?_⟩
   unfold zD
   rw [ht,Int.toNat_natCast] at h1 h2
   rw [Ht] at h2
   have hs:0 < az (dF i t) l:=(my fun e he=>((hp e he).dF i t).1).2 ⟨e,he,by
    unfold dF
    rw [if_pos ⟨hf,ht⟩]
    have :=hPo.a0
    omega⟩
   rw [decide_eq_true hs,cond_true,h1,cond_true]
   exact h2
 ·rintro (⟨h1,h2⟩ | ⟨k,hk,h⟩)
  ·obtain ⟨e,he,h3⟩:=hP.1 h1
   refine ⟨e,he,?_⟩
   unfold dP at h3
   split at h3
   ·rename_i h4
    unfold eB
    rw [h4.1,h4.2,decide_eq_true h2]
    simp
   ·omega
  ·unfold zD at h
   cases h1:decide (az (dF i k) l > 0) with
   | false=>rw [h1] at h; cases h
   | true=>
    rw [h1,cond_true] at h
    obtain ⟨e,he,h3⟩:=(my fun e he=>((hp e he).dF i k).1).1 (of_decide_eq_true h1)
    refine ⟨e,he,?_⟩
    unfold dF at h3
    split at h3
    ·rename_i h4
     unfold eB
     rw [h4.1,h4.2,Int.toNat_natCast,Ht]
     cases h5:(kW bs i k != -1) with
     | false=>rw [h5] at h; cases h
     | true=>
      rw [h5,cond_true] at h
      rw [h]
      simp
    ·omega
theorem BF {g:Nat→Int} {B:Int} : ∀{n:Nat},(∀k,k < n→ -B≤g k∧g k≤B)→ -(B * (n:Int))≤cf g n∧cf g n≤B * (n:Int)
 | 0,_=>by simp [cf]
 | n+1,h=>by
  have h1:=h n (by omega)
  have h2:=BF (g:=g) (B:=B) (n:=n) fun k hk=>h k (by omega)
  simp only [cf]
  rw [show (((n+1:Nat)) :Int)=(n:Int)+1 by omega,Int.mul_add,Int.mul_one]
  omega
theorem OK {n:Nat} {l:aj} (hl:l.length≤1000) (hp: ∀e∈l,PO n e) (i k:Int) : -1099511627776000≤jH l i k∧jH l i k≤1099511627776000:=by
 have h1:=n7 hl hp (φ:=dF i k) (fun e he=>he.dF i k) l.length
 have h2:=n7 hl hp (φ:=dF k i) (fun e he=>he.dF k i) l.length
 rw [List.take_length] at h1 h2
 unfold jH
 omega
theorem Kb (L m:Nat) {ac bs ms qs l:aj} (hB:BK ac bs ms qs) (hl:l.length≤1000) (hp: ∀e∈l,PO ac.length e) {i:Nat} (hi:i < ac.length) (p s n ru:Int)
  (hn: -8000000000000000000≤n∧n≤8000000000000000000) (ajy: -8000000000000000000≤ru∧ru≤8000000000000000000) :
  aG (LB tab QV lK L (m+4) h950 zw) (BE l i (bk ac bs ms qs) p s n ru 0)
   (cond (jG (fun k=> !zD bs qs l i k) ac.length 0) (.ex 0,Yf i (bk ac bs ms qs) p s (n - cf (fun k=>jH l i k) ac.length) (ru+cf (fun k=>jH l i k) ac.length)) (.ret,St.of [(6,.d (.bool true))] [])):=by
 have h6:=hB.n6
 have hdd: ∀k:Nat,k≤6→ -7000000000000000≤cf (fun k=>jH l i k) k∧cf (fun k=>jH l i k) k≤7000000000000000:=fun k hk=>by
  have :=BF (g:=fun k=>jH l i k) (B:=1099511627776000) (n:=k) fun j _=>OK hl hp i j
  omega
 have h0:BE l i (bk ac bs ms qs) p s n ru 0=BE l i (bk ac bs ms qs) p s (n - cf (fun k=>jH l i k) 0) (ru+cf (fun k=>jH l i k) 0) ((0:Nat) :Int):=by
  simp only [cf,Int.sub_zero,Int.add_zero]
  rfl
 rw [h0]
 refine qy (fun k:Nat=>BE l i (bk ac bs ms qs) p s (n - cf (fun k=>jH l i k) k) (ru+cf (fun k=>jH l i k) k) (k:Nat)) _ ac.length _ _ (by simp) (by simp) (fun k hk K=> ?_) (fun K=> ?_)
 ·have eb:i < bs.length:=by rw [hB.lb]; exact hi
  have eq:i < qs.length:=by rw [hB.lq]; exact hi
  have ebt:k < (rw bs i).length:=by rw [hB.rb i hi]; exact hk
  have eqt:k < (rw qs i).length:=by rw [hB.rq i hi]; exact hk
  have hS: ∀a b:Int,v8.D [.ag false 7 l,.int .i64 a,.int .i64 b]:=fun a b=>⟨ac.length,l,a,b,rfl,hl,hp⟩
  have b0:=hdd k (by omega)
  have b1:=OK hl hp i k
  have bq:=hB.cq i k hi hk
  have ed:az (dF (i:Int) (k:Int)) l - az (dF (k:Int) (i:Int)) l=jH l i k:=rfl
  have e1: ∀e:aw,(aa e 0).ak=fe e:=fun _=>rfl
  have e2: ∀(a:aj) (x y:Nat),fe ((rw a x)[y]?.getD [])=kW a x y:=fun _ _ _=>rfl
  rw [Yg,cr hk,cond_true,au (hS _ _),au (hS _ _),au (hS _ _),a8 (by omega)]
  simp only [ed,Dc hB.t.b eb ebt,Dc hB.t.q eq eqt,e1,e2]
  rw [bx (n:=jH l i k) (by omega) (by omega),bx (n:=kW qs i k+jH l i k) (by omega) (by omega),bx (n:=n - cf (fun k=>jH l i k) k - jH l i k) (by omega) (by omega),bx (n:=ru+cf (fun k=>jH l i k) k+jH l i k) (by omega) (by omega)]
  have hs:BE l i (bk ac bs ms qs) p s (n - cf (fun k=>jH l i k) (k+1)) (ru+cf (fun k=>jH l i k) (k+1)) ((k+1:Nat) :Int)=BE l i (bk ac bs ms qs) p s (n - cf (fun k=>jH l i k) k - jH l i k) (ru+cf (fun k=>jH l i k) k+jH l i k) ((k+1:Nat) :Int):=by
   simp only [cf]
   congr 1<;>omega
  rw [hs]
  unfold zD
  cases decide (az (dF (i:Int) (k:Int)) l > 0) with
  | false=>rfl
  | true=>
   cases (kW bs i k != -1) with
   | false=>rfl
   | true=>cases decide (kW qs i k+jH l i k > kW bs i k)<;>rfl
 ·rw [Yg,aO]
  rfl
def zH:aR where
 D ds:= ∃ac bs ms qs l i,ds=[.agg (bk ac bs ms qs),.ag false 7 l,.int .i64 ((i:Nat) :Int)]∧BK ac bs ms qs∧i < ac.length∧l.length≤1000∧ ∀e∈l,PO ac.length e
 val ds:=match ds with | [.agg [.ag _ _ ac,.ag _ _ bs,.ag _ _ ms,.ag _ _ qs],.ag _ _ l,.int _ i]=>some (.bool (cZ ac bs ms qs l i.toNat)) | _=>none
theorem Yj:zH.ok Tryz.prog 95:=fun ds r hD hv=>by
 obtain ⟨ac,bs,ms,qs,l,i,rfl,hB,hi,hl,hp⟩:=hD
 cases hv
 rw [Int.toNat_natCast]
 refine aL (lsp:=lK) a7 OI 20 (0+12) ((t32 0 ac bs ms qs l i).trans ?_)
 have h6:=hB.n6
 have em:i < ms.length:=by rw [hB.lm]; exact hi
 have ID:=hB.ca i hi
 unfold zx at ID
 obtain ⟨c1,c2,c3,c4,c5,c6⟩:=ID
 obtain ⟨hnD,hnb⟩:=hB.ru hi
 have bP:=n7 hl hp (φ:=dP i) (fun e he=>he.dP i) l.length
 have bR:=n7 hl hp (φ:=dR i) (fun e he=>he.dR i) l.length
 rw [List.take_length] at bP bR
 have hdd:=BF (g:=fun k:Nat=>jH l i k) (B:=1099511627776000) (n:=ac.length) fun j _=>OK hl hp i j
 refine (au ⟨ac.length,l,i,rfl,hl,hp⟩).trans ?_
 rw [bx (n:=az (dP i) l+az (dR i) l) (by omega) (by omega)]
 unfold cZ
 rw [EV hp i]
 cases hz:(az (dP i) l+az (dR i) l==0) with
 | true=>rfl
 | false=>
  rw [cond_false,Bool.not_false,Bool.true_and]
  have e0:(aa (ac[i]?.getD []) 0).ak=ka ac i 0:=rfl
  have e1:(aa (ac[i]?.getD []) 1).ak=ka ac i 1:=rfl
  have e2:(aa (ac[i]?.getD []) 2).ak=ka ac i 2:=rfl
  have e3:(aa (ms[i]?.getD []) 0).ak=lf ms i:=rfl
  have Yk:=fun K=>Dd hi hB.t.a K
  have Yl:=fun K=>Dd em (fun e he=>(hB.t.m e he).1) K
  simp only [Yk,Yl,e0,e1,e2,e3]
  rw [bx (n:=ka ac i 0+ka ac i 1) (by omega) (by omega),bx (n:=ka ac i 2 - az (dR i) l) (by omega) (by omega)]
  refine (au ⟨_,_,_,_,_,rfl,hB,hi⟩).trans ?_
  have hL:=Kb 20 (0+8) hB hl hp hi (az (dP i) l) (az (dR i) l) (ka ac i 0+ka ac i 1) (cj (rw qs i)) (by omega) (by omega)
  have cR:ka ac i 0+ka ac i 1 - cf (fun k:Nat=>jH l i k) ac.length=BC ac l i:=by
   unfold BC
   rw [Yi hp hi]
   omega
  have cu:cj (rw qs i)+cf (fun k:Nat=>jH l i k) ac.length=ES qs ac.length l i:=by
   unfold ES
   rw [tQ]
   congr 1
   exact fT fun k hk=>(Ht l i k).symm
  rw [cR,cu] at hL ⊢
  unfold QU
  rw [OJ (ms:=ms) hp hi]
  have fi:az (dS i) l=az (dR i) l:=rfl
  rw [fi]
  cases hA:jG (fun k=> !zD bs qs l i k) ac.length 0 with
  | false=>
   rw [hA] at hL
   refine (au hL).trans ?_
   simp
  | true=>
   rw [hA] at hL
   refine (au hL).trans ?_
   cases hr:decide (BC ac l i < 0) with
   | true=>cases decide (az (dP i) l > 0)<;>rfl
   | false=>
    cases decide (az (dP i) l > 0) with
    | false=>cases (lf ms i != -1)<;>cases decide (ES qs ac.length l i > lf ms i)<;>rfl
    | true=>
     cases hx:decide (az (dR i) l≥ka ac i 2) with
     | true=>
      have hk:cI (ka ac i 2) (az (dR i) l)=0:=by unfold cI; rw [hx]; rfl
      rw [hk,hr]
      cases (lf ms i != -1)<;>cases decide (ES qs ac.length l i > lf ms i)<;>rfl
     | false=>
      have hk:cI (ka ac i 2) (az (dR i) l)=ka ac i 2 - az (dR i) l:=by unfold cI; rw [hx]; rfl
      rw [hk]
      cases (lf ms i != -1)<;>cases decide (ES qs ac.length l i > lf ms i)<;>cases decide (BC ac l i < ka ac i 2 - az (dR i) l)<;>rfl
def BG:aR where
 D ds:= ∃ac bs ms qs a0 f t a c a5 a6,ds=[.agg (bk ac bs ms qs),.agg [.int .i64 a0,.int .i64 f,.int .i64 t,.int .i64 a,.int .i64 c,.int .i64 a5,.int .i64 a6]]
 val ds:=match ds with | [.agg [.ag _ _ ac,.ag _ _ bs,.ag _ _ ms,.ag _ _ qs],.agg [_,.int _ f,.int _ t,.int _ a,.int _ c,_,_]]=>some (.bool (EP ac.length f t a c)) | _=>none
def OL (l:aj) (b:aw) (j:Int) :St:=St.of [(1,.d (.ag false 7 l)),(2,.d (.aI b 0)),(5,.d (.int .i64 j))] [(2,none)]
def ad3:bK:=fun st=>match st.env 1,st.env 2 with
 | .d (.ag q s l),.d (.aI [.ag _ _ ac,.ag _ _ bs,.ag _ _ ms,.ag _ _ qs] _)=>
  .br (l.all (fS ac.length)) (.one (.ex 0) (St.of [(1,.d (.ag q s l))] [])) (.one .ret (St.of [(4,.d (.bool false))] []))
 | _,_=> .no
def BH (l:aj) (b:aw) (v:AV) (i:Int) (o1 o2:Option Ob) :St:=St.of [(1,.d (.ag false 7 l)),(2,.d (.aI b 0)),(5,v),(6,.d (.int .i64 i))] [(21,o1),(50021,o2),(2,none)]
def OM (v:AV) (o1 o2:Option Ob) :St:=St.of [(5,v)] [(21,o1),(50021,o2)]
def ad4:bK:=fun st=>match st.env 1,st.env 2 with
 | .d (.ag _ _ l),.d (.aI [.ag _ _ ac,.ag _ _ bs,.ag _ _ ms,.ag _ _ qs] _)=>
  C2 OM 21 50021 3 1 (cd ac.length (cZ ac bs ms qs l))
 | _,_=> .no
def lN (k:Nat) :Option bK:=if k=470 then some ad3 else if k=480 then some ad4 else none
noncomputable def wc:FuncId→Option aR:=bL 50 BG (bL 94 BG (bL 95 zH aV))
theorem t10 (n:Nat) (ac bs ms qs:aj) (a0 f t a c a5 a6:Int) :FK tab aV bu 20 (n+8) 50 [.agg (bk ac bs ms qs),.agg [.int .i64 a0,.int .i64 f,.int .i64 t,.int .i64 a,.int .i64 c,.int .i64 a5,.int .i64 a6]]=
  (some
 (DV.bool
 (bif
 bif
 bif
 bif
 bif
 bif bif bif decide (f≥(0:Int)) then decide (f < (↑ac.length:Int)) else false then decide (t≥(0:Int)) else false then
 decide (t < (↑ac.length:Int))
 else false then
 f !=t
 else false then
 decide (a≥(1:Int))
 else false then
 decide (a≤(1099511627776:Int))
 else false then
 decide (c≥(1:Int))
 else false then
 decide (c≤(3:Int))
 else false))):=by kernel_rfl
theorem t11 (n:Nat) (ac bs ms qs:aj) (a0 f t a c a5 a6:Int) :FK tab aV bu 20 (n+8) 94 [.agg (bk ac bs ms qs),.agg [.int .i64 a0,.int .i64 f,.int .i64 t,.int .i64 a,.int .i64 c,.int .i64 a5,.int .i64 a6]]=
  (some
 (DV.bool
 (bif
 bif
 bif
 bif
 bif
 bif bif bif decide (f≥(0:Int)) then decide (f < (↑ac.length:Int)) else false then decide (t≥(0:Int)) else false then
 decide (t < (↑ac.length:Int))
 else false then
 f !=t
 else false then
 decide (a≥(1:Int))
 else false then
 decide (a≤(1099511627776:Int))
 else false then
 decide (c≥(1:Int))
 else false then
 decide (c≤(3:Int))
 else false))):=by kernel_rfl
theorem Ym (L n:Nat) (l ac bs ms qs:aj) (j:Nat) (K:aX) :LB tab wc lN L (n+4) h470 zu (OL l (bk ac bs ms qs) j) K=
  (bif decide ((↑j:Int) < (↑l.length:Int)) then
 aA l[j]? fun (e1:aw)=>
 bif aq Cd.bg e1 then
 aP
 (BG.D
 [DV.agg [DV.ag false 3 ac,DV.ag false 1 bs,DV.ag false 1 ms,DV.ag false 1 qs],
 DV.agg
 [DV.int .i64 (aa e1 0).ak,DV.int .i64 (aa e1 1).ak,DV.int .i64 (aa e1 2).ak,DV.int .i64 (aa e1 3).ak,DV.int .i64 (aa e1 4).ak,DV.int .i64 (aa e1 5).ak,DV.int .i64 (aa e1 6).ak]])
 (bif !EP (↑ac.length:Int) (aa e1 1).ak (aa e1 2).ak (aa e1 3).ak (aa e1 4).ak then
 K Ex.ret (St.of [(4,AV.d (DV.bool false))] [])
 else
 K Ex.bC
 (St.of
 [(1,AV.d (DV.ag false 7 l)),
 ((2:Nat),
 AV.d (DV.aI [DV.ag false 3 ac,DV.ag false 1 bs,DV.ag false 1 ms,DV.ag false 1 qs] (0:Nat))),
 ((5:Nat),AV.d (DV.int .i64 (IntKind.i64.wrap ((↑j:Int)+ (1:Int)))))]
 [(2,none)]))
 else none
 else K (Ex.ex (0:Nat)) (St.of [(1,AV.d (DV.ag false 7 l))] [])):=by kernel_rfl
theorem t14 (n:Nat) (ac bs ms qs l:aj) :FK tab wc lN 20 (n+8) 47 [.agg (bk ac bs ms qs),.ag false 7 l]=
  (bif l.all (fS ac.length) then
 aP
 (aG (LB tab wc lN (20:Nat) (n+ (8:Nat)) h470 zu)
 (St.of
 [(1,AV.d (DV.ag false 7 l)),
 ((2:Nat),
 AV.d (DV.aI [DV.ag false 3 ac,DV.ag false 1 bs,DV.ag false 1 ms,DV.ag false 1 qs] (0:Nat))),
 ((5:Nat),AV.d (DV.int .i64 0))]
 [(2,none)])
 (Ex.ex (0:Nat),St.of [(1,AV.d (DV.ag false 7 l))] []))
 (some (DV.bool (decide ((↑l.length:Int)≤(64:Int)))))
 else
 aP
 (aG (LB tab wc lN (20:Nat) (n+ (8:Nat)) h470 zu)
 (St.of
 [(1,AV.d (DV.ag false 7 l)),
 ((2:Nat),
 AV.d (DV.aI [DV.ag false 3 ac,DV.ag false 1 bs,DV.ag false 1 ms,DV.ag false 1 qs] (0:Nat))),
 ((5:Nat),AV.d (DV.int .i64 0))]
 [(2,none)])
 (Ex.ret,St.of [(4,AV.d (DV.bool false))] []))
 (some (DV.bool false))):=by kernel_rfl
theorem L9 (L n:Nat) (l ac bs ms qs:aj) (j:Nat) (K:aX) :LB tab wc lN L (n+4) h480 j4 (BH l (bk ac bs ms qs) (.d .af) j none none) K=
  (bif decide ((↑j:Int) < (↑ac.length:Int)) then
 aP
 (zH.D
 [DV.agg [DV.ag false 3 ac,DV.ag false 1 bs,DV.ag false 1 ms,DV.ag false 1 qs],DV.ag false 7 l,DV.int .i64 (↑j:Int)])
 (bif cZ ac bs ms qs l j then
 K Ex.bC
 (St.of
 [(1,AV.d (DV.ag false 7 l)),
 ((2:Nat),
 AV.d (DV.aI [DV.ag false 3 ac,DV.ag false 1 bs,DV.ag false 1 ms,DV.ag false 1 qs] (0:Nat))),
 ((5:Nat),AV.ah 21 1 0 (1:Nat)),(6,AV.d (DV.int .i64 (IntKind.i64.wrap ((↑j:Int)+ (1:Int)))))]
 [(21,some (Ob.aC 3 1 [[DV.int .i64 (↑j:Int)]])),(50021,none),(2,none)])
 else
 K Ex.bC
 (St.of
 [(1,AV.d (DV.ag false 7 l)),
 ((2:Nat),
 AV.d (DV.aI [DV.ag false 3 ac,DV.ag false 1 bs,DV.ag false 1 ms,DV.ag false 1 qs] (0:Nat))),
 ((5:Nat),AV.d DV.af),(6,AV.d (DV.int .i64 (IntKind.i64.wrap ((↑j:Int)+ (1:Int)))))]
 [(21,none),(50021,none),(2,none)]))
 else K (Ex.ex (0:Nat)) (St.of [(5,AV.d DV.af)] [(21,none),(50021,none)])):=by kernel_rfl
theorem L' (L n:Nat) (l ac bs ms qs O:aj) (j:Nat) (K:aX) :LB tab wc lN L (n+4) h480 j4 (BH l (bk ac bs ms qs) (.ah 21 1 0 O.length) j (some (.aC 3 1 O)) none) K=
  (bif decide ((↑j:Int) < (↑ac.length:Int)) then
 aP
 (zH.D
 [DV.agg [DV.ag false 3 ac,DV.ag false 1 bs,DV.ag false 1 ms,DV.ag false 1 qs],DV.ag false 7 l,DV.int .i64 (↑j:Int)])
 (bif cZ ac bs ms qs l j then
 bif decide ((O++[[DV.int .i64 (↑j:Int)]]).length * (8:Nat)≤room∧(O++[[DV.int .i64 (↑j:Int)]]).length≤room) then
 K Ex.bC
 (St.of
 [(1,AV.d (DV.ag false 7 l)),
 ((2:Nat),
 AV.d (DV.aI [DV.ag false 3 ac,DV.ag false 1 bs,DV.ag false 1 ms,DV.ag false 1 qs] (0:Nat))),
 ((5:Nat),AV.ah (alt (21:Nat) (21:Nat)) (1:Nat) (0:Nat) (O++[[DV.int .i64 (↑j:Int)]]).length),
 ((6:Nat),AV.d (DV.int .i64 (IntKind.i64.wrap ((↑j:Int)+ (1:Int)))))]
 [(21,none),(50021,some (Ob.aC 3 1 (O++[[DV.int .i64 (↑j:Int)]]))),(2,none)])
 else none
 else
 K Ex.bC
 (St.of
 [(1,AV.d (DV.ag false 7 l)),
 ((2:Nat),
 AV.d (DV.aI [DV.ag false 3 ac,DV.ag false 1 bs,DV.ag false 1 ms,DV.ag false 1 qs] (0:Nat))),
 ((5:Nat),AV.ah 21 1 0 O.length),(6,AV.d (DV.int .i64 (IntKind.i64.wrap ((↑j:Int)+ (1:Int)))))]
 [(21,some (Ob.aC 3 1 O)),(50021,none),(2,none)]))
 else
 K (Ex.ex (0:Nat))
 (St.of [(5,AV.ah 21 1 0 O.length)] [(21,some (Ob.aC 3 1 O)),(50021,none)])):=
 (show LB tab wc lN L (n+4) h480 j4 (BH l (bk ac bs ms qs) (.ah 21 1 0 O.length) j (some (.aC 3 1 O)) none) K=
 (cond (decide ((↑j:Int) < (↑ac.length:Int)))
 (aP (aR.D (zH) [(.agg [(.ag false 3 ac),(.ag false 1 bs),(.ag false 1 ms),(.ag false 1 qs)]),(.ag false 7 l),(.int .i64 ((↑j:Int)))])
 (cond (cZ ac bs ms qs l (↑j:Int).toNat)
 (cond (decide ((3:TypeId)=(3:Nat)∧(1:Nat)=(1:Nat)∧(1:Nat)=(1:Nat)∧(0:Nat)=(0:Nat)∧O.length=O.length∧(O++[[DV.int .i64 (↑j:Int)]]).length * (8:Nat)≤room∧(O++[[DV.int .i64 (↑j:Int)]]).length≤room))
 (K .bC (St.of [(1,(.d (.ag false 7 l))),(2,(.d (.aI [(.ag false 3 ac),(.ag false 1 bs),(.ag false 1 ms),(.ag false 1 qs)] 0))),(5,(.ah (alt 21 21) 1 0 ((O++[[DV.int .i64 (↑j:Int)]]).length))),(6,(.d (.int .i64 (IntKind.i64.wrap ((↑j:Int)+ (1:Int))))))] [(21,.none),(50021,(.some (.aC 3 1 (O++[[DV.int .i64 (↑j:Int)]])))),(2,.none)]))
 none)
 (K .bC (St.of [(1,(.d (.ag false 7 l))),(2,(.d (.aI [(.ag false 3 ac),(.ag false 1 bs),(.ag false 1 ms),(.ag false 1 qs)] 0))),(5,(.ah 21 1 0 (O.length))),(6,(.d (.int .i64 (IntKind.i64.wrap ((↑j:Int)+ (1:Int))))))] [(21,(.some (.aC 3 1 O))),(50021,.none),(2,.none)]))))
 (K (.ex 0) (St.of [(5,(.ah 21 1 0 (O.length)))] [(21,(.some (.aC 3 1 O))),(50021,.none)]))) from by kernel_rfl).trans (by first | rfl | (simp only [decide_true,decide_false,eq_self,and_true,true_and,and_self,cond_true,cond_false,Nat.le_refl,Int.le_refl,Option.getD_some,Option.getD_none,Int.toNat_natCast,List.take_length,List.drop_zero,Nat.zero_add,List.nil_append,List.all_nil,List.append_nil,Bool.true_and,Bool.and_true,cK,de,cL,cn,bZ,cp,Option.isSome_some,Option.isSome_none,Bool.false_eq_true,false_and,and_false,if_true,if_false,implies_true,Int.toNat_zero,Bool.not_false,Bool.not_true,bne_self_eq_false]; first | done | rfl))
theorem Ma (L n:Nat) (l ac bs ms qs O:aj) (j:Nat) (K:aX) :LB tab wc lN L (n+4) h480 j4 (BH l (bk ac bs ms qs) (.ah 50021 1 0 O.length) j none (some (.aC 3 1 O))) K=
  (bif decide ((↑j:Int) < (↑ac.length:Int)) then
 aP
 (zH.D
 [DV.agg [DV.ag false 3 ac,DV.ag false 1 bs,DV.ag false 1 ms,DV.ag false 1 qs],DV.ag false 7 l,DV.int .i64 (↑j:Int)])
 (bif cZ ac bs ms qs l j then
 bif decide ((O++[[DV.int .i64 (↑j:Int)]]).length * (8:Nat)≤room∧(O++[[DV.int .i64 (↑j:Int)]]).length≤room) then
 K Ex.bC
 (St.of
 [(1,AV.d (DV.ag false 7 l)),
 ((2:Nat),
 AV.d (DV.aI [DV.ag false 3 ac,DV.ag false 1 bs,DV.ag false 1 ms,DV.ag false 1 qs] (0:Nat))),
 ((5:Nat),AV.ah (alt (50021:Nat) (21:Nat)) (1:Nat) (0:Nat) (O++[[DV.int .i64 (↑j:Int)]]).length),
 ((6:Nat),AV.d (DV.int .i64 (IntKind.i64.wrap ((↑j:Int)+ (1:Int)))))]
 [(21,some (Ob.aC 3 1 (O++[[DV.int .i64 (↑j:Int)]]))),(50021,none),(2,none)])
 else none
 else
 K Ex.bC
 (St.of
 [(1,AV.d (DV.ag false 7 l)),
 ((2:Nat),
 AV.d (DV.aI [DV.ag false 3 ac,DV.ag false 1 bs,DV.ag false 1 ms,DV.ag false 1 qs] (0:Nat))),
 ((5:Nat),AV.ah 50021 1 0 O.length),
 ((6:Nat),AV.d (DV.int .i64 (IntKind.i64.wrap ((↑j:Int)+ (1:Int)))))]
 [(21,none),(50021,some (Ob.aC 3 1 O)),(2,none)]))
 else
 K (Ex.ex (0:Nat))
 (St.of [(5,AV.ah 50021 1 0 O.length)] [(21,none),(50021,some (Ob.aC 3 1 O))])):=
 (show LB tab wc lN L (n+4) h480 j4 (BH l (bk ac bs ms qs) (.ah 50021 1 0 O.length) j none (some (.aC 3 1 O))) K=
 (cond (decide ((↑j:Int) < (↑ac.length:Int)))
 (aP (aR.D (zH) [(.agg [(.ag false 3 ac),(.ag false 1 bs),(.ag false 1 ms),(.ag false 1 qs)]),(.ag false 7 l),(.int .i64 ((↑j:Int)))])
 (cond (cZ ac bs ms qs l (↑j:Int).toNat)
 (cond (decide ((3:TypeId)=(3:Nat)∧(1:Nat)=(1:Nat)∧(1:Nat)=(1:Nat)∧(0:Nat)=(0:Nat)∧O.length=O.length∧(O++[[DV.int .i64 (↑j:Int)]]).length * (8:Nat)≤room∧(O++[[DV.int .i64 (↑j:Int)]]).length≤room))
 (K .bC (St.of [(1,(.d (.ag false 7 l))),(2,(.d (.aI [(.ag false 3 ac),(.ag false 1 bs),(.ag false 1 ms),(.ag false 1 qs)] 0))),(5,(.ah (alt 50021 21) 1 0 ((O++[[DV.int .i64 (↑j:Int)]]).length))),(6,(.d (.int .i64 (IntKind.i64.wrap ((↑j:Int)+ (1:Int))))))] [(21,(.some (.aC 3 1 (O++[[DV.int .i64 (↑j:Int)]])))),(50021,.none),(2,.none)]))
 none)
 (K .bC (St.of [(1,(.d (.ag false 7 l))),(2,(.d (.aI [(.ag false 3 ac),(.ag false 1 bs),(.ag false 1 ms),(.ag false 1 qs)] 0))),(5,(.ah 50021 1 0 (O.length))),(6,(.d (.int .i64 (IntKind.i64.wrap ((↑j:Int)+ (1:Int))))))] [(21,.none),(50021,(.some (.aC 3 1 O))),(2,.none)]))))
 (K (.ex 0) (St.of [(5,(.ah 50021 1 0 (O.length)))] [(21,.none),(50021,(.some (.aC 3 1 O)))]))) from by kernel_rfl).trans (by first | rfl | (simp only [decide_true,decide_false,eq_self,and_true,true_and,and_self,cond_true,cond_false,Nat.le_refl,Int.le_refl,Option.getD_some,Option.getD_none,Int.toNat_natCast,List.take_length,List.drop_zero,Nat.zero_add,List.nil_append,List.all_nil,List.append_nil,Bool.true_and,Bool.and_true,cK,de,cL,cn,bZ,cp,Option.isSome_some,Option.isSome_none,Bool.false_eq_true,false_and,and_false,if_true,if_false,implies_true,Int.toNat_zero,Bool.not_false,Bool.not_true,bne_self_eq_false]; first | done | rfl))
theorem t17 (n:Nat) (ac bs ms qs l:aj) :FK tab wc lN 20 (n+8) 48 [.agg (bk ac bs ms qs),.ag false 7 l]=
  (bif (cd ac.length (cZ ac bs ms qs l)).isEmpty then
 aP
 (aG (LB tab wc lN (20:Nat) (n+ (8:Nat)) h480 j4)
 (St.of
 [(1,AV.d (DV.ag false 7 l)),
 ((2:Nat),
 AV.d (DV.aI [DV.ag false 3 ac,DV.ag false 1 bs,DV.ag false 1 ms,DV.ag false 1 qs] (0:Nat))),
 ((5:Nat),AV.d DV.af),(6,AV.d (DV.int .i64 0))]
 [(21,none),(50021,none),(2,none)])
 (Ex.ex (0:Nat),St.of [(5,AV.d DV.af)] [(21,none),(50021,none)]))
 (some DV.af)
 else
 bif fw ((cd ac.length (cZ ac bs ms qs l)).length - (1:Nat)) then
 aP
 (aG (LB tab wc lN (20:Nat) (n+ (8:Nat)) h480 j4)
 (St.of
 [(1,AV.d (DV.ag false 7 l)),
 ((2:Nat),
 AV.d (DV.aI [DV.ag false 3 ac,DV.ag false 1 bs,DV.ag false 1 ms,DV.ag false 1 qs] (0:Nat))),
 ((5:Nat),AV.d DV.af),(6,AV.d (DV.int .i64 0))]
 [(21,none),(50021,none),(2,none)])
 (Ex.ex (0:Nat),
 St.of [(5,AV.ah 21 1 0 (cd ac.length (cZ ac bs ms qs l)).length)]
 [(21,some (Ob.aC 3 1 (cd ac.length (cZ ac bs ms qs l)))),(50021,none)]))
 (some (DV.sl (SK.own (3:Nat)) (1:Nat) (cd ac.length (cZ ac bs ms qs l))))
 else
 aP
 (aG (LB tab wc lN (20:Nat) (n+ (8:Nat)) h480 j4)
 (St.of
 [(1,AV.d (DV.ag false 7 l)),
 ((2:Nat),
 AV.d (DV.aI [DV.ag false 3 ac,DV.ag false 1 bs,DV.ag false 1 ms,DV.ag false 1 qs] (0:Nat))),
 ((5:Nat),AV.d DV.af),(6,AV.d (DV.int .i64 0))]
 [(21,none),(50021,none),(2,none)])
 (Ex.ex (0:Nat),
 St.of [(5,AV.ah 50021 1 0 (cd ac.length (cZ ac bs ms qs l)).length)]
 [(21,none),(50021,some (Ob.aC 3 1 (cd ac.length (cZ ac bs ms qs l))))]))
 (some (DV.sl (SK.own (3:Nat)) (1:Nat) (cd ac.length (cZ ac bs ms qs l))))):=
 (show FK tab wc lN 20 (n+8) 48 [.agg (bk ac bs ms qs),.ag false 7 l]=
 (cond ((cd ac.length (cZ ac bs ms qs l)).isEmpty)
 (aP (aG (LB tab wc lN ((20:Nat)) (n+ (8:Nat)) h480 j4) (St.of [(1,(.d (.ag false 7 l))),(2,(.d (.aI [(.ag false 3 ac),(.ag false 1 bs),(.ag false 1 ms),(.ag false 1 qs)] 0))),(5,(.d .af)),(6,(.d (.int .i64 ((0:Int)))))] [(21,.none),(50021,.none),(2,.none)]) ((.ex 0),(St.of [(5,(.d .af))] [(21,.none),(50021,.none)])))
 (some .af))
 (cond (fw ((cd ac.length (cZ ac bs ms qs l)).length - (1:Nat)))
 (aP (aG (LB tab wc lN ((20:Nat)) (n+ (8:Nat)) h480 j4) (St.of [(1,(.d (.ag false 7 l))),(2,(.d (.aI [(.ag false 3 ac),(.ag false 1 bs),(.ag false 1 ms),(.ag false 1 qs)] 0))),(5,(.d .af)),(6,(.d (.int .i64 ((0:Int)))))] [(21,.none),(50021,.none),(2,.none)]) ((.ex 0),(St.of [(5,(.ah 21 1 0 ((cd ac.length (cZ ac bs ms qs l)).length)))] [(21,(.some (.aC 3 1 (cd ac.length (cZ ac bs ms qs l))))),(50021,.none)])))
 (cond (decide ((cd ac.length (cZ ac bs ms qs l)).length=(cd ac.length (cZ ac bs ms qs l)).length))
 (some (.sl (SK.own (3:Nat)) 1 (cd ac.length (cZ ac bs ms qs l))))
 (cond (decide ((0:Nat)+ (cd ac.length (cZ ac bs ms qs l)).length≤(cd ac.length (cZ ac bs ms qs l)).length))
 (some (.sl (SK.ro) 1 (List.take (cd ac.length (cZ ac bs ms qs l)).length (cd ac.length (cZ ac bs ms qs l)))))
 none)))
 (aP (aG (LB tab wc lN ((20:Nat)) (n+ (8:Nat)) h480 j4) (St.of [(1,(.d (.ag false 7 l))),(2,(.d (.aI [(.ag false 3 ac),(.ag false 1 bs),(.ag false 1 ms),(.ag false 1 qs)] 0))),(5,(.d .af)),(6,(.d (.int .i64 ((0:Int)))))] [(21,.none),(50021,.none),(2,.none)]) ((.ex 0),(St.of [(5,(.ah 50021 1 0 ((cd ac.length (cZ ac bs ms qs l)).length)))] [(21,.none),(50021,(.some (.aC 3 1 (cd ac.length (cZ ac bs ms qs l)))))])))
 (cond (decide ((cd ac.length (cZ ac bs ms qs l)).length=(cd ac.length (cZ ac bs ms qs l)).length))
 (some (.sl (SK.own (3:Nat)) 1 (cd ac.length (cZ ac bs ms qs l))))
 (cond (decide ((0:Nat)+ (cd ac.length (cZ ac bs ms qs l)).length≤(cd ac.length (cZ ac bs ms qs l)).length))
 (some (.sl (SK.ro) 1 (List.take (cd ac.length (cZ ac bs ms qs l)).length (cd ac.length (cZ ac bs ms qs l)))))
 none))))) from by kernel_rfl).trans (by first | rfl | (simp only [decide_true,decide_false,eq_self,and_true,true_and,and_self,cond_true,cond_false,Nat.le_refl,Int.le_refl,Option.getD_some,Option.getD_none,Int.toNat_natCast,List.take_length,List.drop_zero,Nat.zero_add,List.nil_append,List.all_nil,List.append_nil,Bool.true_and,Bool.and_true,cK,de,cL,cn,bZ,cp,Option.isSome_some,Option.isSome_none,Bool.false_eq_true,false_and,and_false,if_true,if_false,implies_true,Int.toNat_zero,Bool.not_false,Bool.not_true,bne_self_eq_false]; first | done | rfl))
end Go.Proofs.YtglbgfcegifeeaaGreat.Fz
