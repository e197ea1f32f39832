/- A pure machine over data that stands for runs of the translated code: its values, its operations, how the code is compiled to it. No condition. -/
import Derived.Calls
import Derived.Orders
import Derived.Below
import Derived.Laws.AppendOwn
import Derived.Laws.MakeOwn
import Derived.Laws.Cells
import Derived.Laws.CopyRow
import Derived.Laws.StructEq
import Derived.KernelRfl
import Derived.DataShut
set_option linter.unusedVariables false
set_option linter.unusedSimpArgs false
set_option linter.unusedSectionVars false
namespace Go.Proofs.YtglbgfcegifeeaaGreat.Vm
open Go Go.RowKit
inductive SK where
 | ro
 | tight
 | own (el:TypeId)
 | cT (el:TypeId)
 deriving DecidableEq
inductive DV where
 | int (k:IntKind) (n:Int)
 | bool (b:Bool)
 | af
 | sl (k:SK) (sz:Nat) (es:List (List DV))
 | ag (tt:Bool) (sz:Nat) (es:List (List DV))
 | aI (e:List DV) (off:Nat)
 | bn
 | func (f:FuncId) (caps:List DV)
 | fN
 | agg (cs:List DV)
 | tuple (vs:List DV)
 | mv (el:TypeId) (sz:Nat) (es:List (List DV))
 | gi (vs os:List DV)
inductive AV where
 | d (x:DV)
 | ah (s sz off len:Nat)
 | ptr (s sz i off:Nat)
 | mA (s sz i off n:Nat)
 | func (f:FuncId) (caps:List AV)
 | agg (cs:List AV)
 | tuple (vs:List AV)
 | w (t:Nat) (want:Bool) (v:AV)
 | undef
inductive Ob where
 | aC (el:TypeId) (sz:Nat) (es:List (List DV))
 | mix (el:TypeId) (sz:Nat) (es:List (List AV))
abbrev aw:=List DV
abbrev aj:=List (List DV)
abbrev aH:=Option DV
structure St where
 env:Nat→AV
 aT:Nat→Option Ob
inductive AX where
 | t (n:Nat)
 | k (c:DV)
 | fn (f:FuncId)
def AV.strip:AV→AV
 | .w _ _ _=> .undef
 | v=>v
def AX.ev (st:St) :AX→AV
 | .t n=>(st.env n).strip
 | .k c=> .d c
 | .fn g=> .d (.func g [])
inductive bN where
 | mv (x:AX)
 | pick (c a b:AX)
 | box (el sz:Nat) (x:AX)
 | alloc (el sz:Nat) (z:aw)
 | build (z:aw) (parts:List (Nat×Nat×AX))
 | aF (el sz len:Nat) (z:aw) (parts:List (Nat×AX))
 | load (agg:Bool) (sz:Nat) (x:AX) (z:aw)
 | store (sz:Nat) (a x:AX)
 | bin (op:BinOp) (x y:AX)
 | IJ (neg:Bool) (x y:AX)
 | eqs (neg:Bool) (n:Nat) (x y:AX)
 | lh (op:BinOp) (x y:AX)
 | un (op:UnOp) (x:AX)
 | conv (k:IntKind) (x:AX)
 | aD (off:Nat) (x:AX)
 | bc (sz:Nat) (x i:AX) (z:aw)
 | slice (sz:Nat) (x:AX) (lo hi mx:Option AX)
 | ext (x:AX) (i:Nat)
 | len (x:AX)
 | mx (xs:List AX)
 | mn (xs:List AX)
 | append (el sz bytes:Nat) (x y:AX)
 | b7 (el sz bytes:Nat) (z:aw) (l c:AX)
 | kd (f:FuncId) (caps:List AX)
 | jq (neg:Bool) (x:AX)
 | eH (neg:Bool) (x:AX)
 | du (rQ n:Nat) (x i:AX)
 | mU (n:Nat) (x:AX) (lo hi:Option AX)
 | copy (x y:AX)
 | call (f:FuncId) (args:List AX)
 | eO (f:FuncId) (x:AX) (args:List AX)
 | ej (f:AX) (args:List AX)
 | aJ (f:FuncId) (args:List AX)
structure aN where
 dst:Option Nat
 g:Option (Nat×Bool)
 up:List (Nat×Bool)
 uu:Bool
 op:bN
structure Hint where
 key:Nat
 lv:List Nat
 ls:List Nat
 lr:List Nat
 fr:List Nat
inductive AC where
 | skip
 | ae (ops:List aN)
 | bG (ops:List aN) (dyn:List (Nat×Nat))
 | seq (a b:AC)
 | cond (c:AX) (a b:AC)
 | block (id:Nat) (b:AC)
 | loop (h:Option Hint) (b:AC)
 | exit (h:Option Hint) (id:Nat)
 | ret (h:Option Hint)
 | bad
mutual
def AV.has (s:Nat) :AV→Bool
 | .d _=>false
 | .ah s' _ _ _=>s'==s
 | .ptr s' _ _ _=>s'==s
 | .mA s' _ _ _ _=>s'==s
 | .func _ cs=>eJ s cs
 | .agg cs=>eJ s cs
 | .tuple cs=>eJ s cs
 | .w _ _ v=>v.has s
 | .undef=>false
def eJ (s:Nat) :List AV→Bool
 | []=>false
 | v::l=>v.has s||eJ s l
end
def AV.kill (s:Nat) (v:AV) :AV:=if v.has s then .undef else v
def Ob.has (s:Nat) :Ob→Bool
 | .aC _ _ _=>false
 | .mix _ _ es=>es.any (eJ s)
def Ob.kill (s:Nat) (o:Ob) :Option Ob:=if o.has s then none else some o
mutual
def AV.eV:AV→Bool
 | .d _=>false
 | .ah _ _ _ _=>true
 | .ptr _ _ _ _=>true
 | .mA _ _ _ _ _=>true
 | .func _ cs=>ba cs
 | .agg cs=>ba cs
 | .tuple cs=>ba cs
 | .w _ _ _=>true
 | .undef=>false
def ba:List AV→Bool
 | []=>false
 | v::l=>v.eV||ba l
end
def DV.dX:DV→Bool
 | .sl (.own _) _ _=>true
 | .sl (.cT _) _ _=>true
 | _=>false
mutual
def DV.plain:DV→Bool
 | .int _ _ | .bool _ | .af | .bn | .fN=>true
 | .sl (.own _) _ es=>jr es
 | .sl _ _ _=>false
 | .ag _ _ _=>false
 | .aI _ _=>false
 | .func _ cs=>iK cs
 | .agg cs=>iK cs
 | .tuple cs=>iK cs
 | .mv _ _ _=>false
 | .gi _ _=>false
def iK:aw→Bool
 | []=>true
 | v::l=>v.plain&& !v.dX&&iK l
def jr:aj→Bool
 | []=>true
 | v::l=>iK v&&jr l
end
def DV.dz:DV→Bool
 | .tuple vs=>vs.all DV.plain
 | .agg vs=>vs.all DV.plain
 | r=>r.plain
def DV.cells:DV→aw
 | .agg cs=>cs
 | x=>[x]
def AV.cells:AV→List AV
 | .agg cs=>cs
 | .d (.agg cs)=>cs.map .d
 | x=>[x]
def DV.one:DV→Bool
 | .agg _ | .tuple _ | .mv _ _ _ | .gi _ _=>false
 | _=>true
def AV.one:AV→Bool
 | .d x=>x.one
 | .agg _ | .tuple _ | .w _ _ _ | .undef=>false
 | _=>true
def dH:List AV→Option aw
 | []=>some []
 | .d x::l=>(dH l).map (x:: ·)
 | _::_=>none
def AV.cH (t:Nat) :AV→AV
 | .w t' want v=>if t'=t then .undef else .w t' want v
 | v=>v
def AV.un (t:Nat) (want:Bool) :AV→AV
 | .w t' ck v=>if t'=t∧ck=want then v.strip else .w t' ck v
 | v=>v
def St.under (st:St) (t:Nat) (want:Bool) :St:={st with env:=fun n=>(st.env n).un t want}
def St.lj (st:St) (t:Nat) (b:Bool) :St:={st with env:=fun n=>if n=t then .d (.bool b) else (st.env n).un t b}
def St.iv (st:St) :Nat→Bool→List (Nat×Bool)→Option St
 | t,want,[]=>match st.env t with | .d (.bool _)=>some (st.under t want) | _=>none
 | t,want,(t',ck)::up=>
  match st.env t with
  | .d (.bool _)=>some (st.under t want)
  | .w t1 w1 _=>if t1=t'∧w1=ck then (st.iv t' ck up).map fun s=>s.under t want else none
  | _=>none
def St.dead (st:St) :Nat→Bool→List (Nat×Bool)→Bool
 | t,want,[]=>match st.env t with | .d (.bool b)=>b !=want | _=>false
 | t,want,(t',ck)::up=>
  match st.env t with
  | .d (.bool b)=>b !=want
  | .w t1 w1 v=>decide (t1=t'∧w1=ck)&&((match v with | .d (.bool b)=>b !=want | _=>false)||st.dead t' ck up)
  | _=>false
def St.branch (st:St) :Nat→Bool→List (Nat×Bool)→Option (Bool×St)
 | t,want,[]=>match st.env t with | .d (.bool b)=>some (b==want,st.lj t b) | _=>none
 | t,want,(t',ck)::up=>
  match st.env t with
  | .d (.bool b)=>some (b==want,st.lj t b)
  | .w t1 w1 _=>
   if t1=t'∧w1=ck then
    match st.branch t' ck up with
    | some (true,dD)=>(match dD.env t with | .d (.bool b)=>some (b==want,dD.lj t b) | _=>none)
    | some (false,dD)=>some (false,dD)
    | none=>none
   else none
  | _=>none
def St.put (st:St) (t:Nat) (v:AV) :St:={st with env:=fun n=>if n=t then v else (st.env n).cH t}
def St.uE (st:St) (t:Option Nat) (v:AV) :St:=match t with | some t=>st.put t v | none=>st
def St.at_ (st:St) (s:Nat) (o:Ob) :St:=
 {env:=fun n=>(st.env n).kill s,aT:=fun n=>if n=s then some o else (st.aT n).bind (Ob.kill s)}
def St.jJ (st:St) (s:Nat) (o:Ob) :St:={st with aT:=fun n=>if n=s then some o else st.aT n}
def St.gE (st:St) (s:Nat) :St:={env:=fun n=>(st.env n).kill s,aT:=fun n=>if n=s then none else (st.aT n).bind (Ob.kill s)}
def St.drop (st:St) (s:Nat) :St:={st with aT:=fun n=>if n=s then none else st.aT n}
mutual
def AV.gp (s t:Nat) :AV→AV
 | .d x=> .d x
 | .ah s' sz off len=> .ah (cond (Nat.beq s' s) t s') sz off len
 | .ptr s' sz i off=> .ptr (cond (Nat.beq s' s) t s') sz i off
 | .mA s' sz i off n=> .mA (cond (Nat.beq s' s) t s') sz i off n
 | .func f cs=> .func f (rB s t cs)
 | .agg cs=> .agg (rB s t cs)
 | .tuple cs=> .tuple (rB s t cs)
 | .w q want v=> .w q want (v.gp s t)
 | .undef=> .undef
def rB (s t:Nat) :List AV→List AV
 | []=>[]
 | v::l=>v.gp s t::rB s t l
end
def Ob.gp (s t:Nat) :Ob→Ob
 | .aC el sz es=> .aC el sz es
 | .mix el sz es=> .mix el sz (es.map (rB s t))
def St.gp (st:St) (s t:Nat) :St:=
 {env:=fun n=>(((st.env n).kill t)).gp s t,aT:=fun n=>cond (Nat.beq n s) none (cond (Nat.beq n t) (((st.aT s).bind (Ob.kill t)).map (Ob.gp s t)) (((st.aT n).bind (Ob.kill t)).map (Ob.gp s t)))}
def St.k5:List Nat→St→St
 | [],st=>st
 | t::l,st=>St.k5 l (cond (Nat.beq ((t+50000) % 100000) 99999) st (st.gp t (t+50000)))
def lk (st:St) (t:Nat) :Nat→Nat→Nat
 | 0,k=>t+50000+100000 * k
 | n+1,k=>match st.aT (t+50000+100000 * k) with | none=>t+50000+100000 * k | some _=>lk st t n (k+1)
theorem uT (st:St) (t:Nat) : ∀n k,t≠lk st t n k
 | 0,k=>by simp only [lk]; omega
 | n+1,k=>by
  simp only [lk]
  split
  ·omega
  ·exact uT st t n (k+1)
def St.rC:List Nat→St→St
 | [],st=>st
 | t::l,st=>St.rC l (match st.aT t with | none=>st | some _=>cond (Nat.beq ((t+50000) % 100000) 99999) st (st.gp t (lk st t 7 0)))
def gJ:List (Nat×AV)→Nat→AV
 | [],_=> .undef
 | (m,v)::l,n=>cond (Nat.beq n m) v (gJ l n)
def gq:List (Nat×Option Ob)→Nat→Option Ob
 | [],_=>none
 | (m,v)::l,n=>cond (Nat.beq n m) v (gq l n)
def St.of (vs:List (Nat×AV)) (os:List (Nat×Option Ob)) :St:=⟨gJ vs,gq os⟩
def St.dU (st:St) (h:Hint) :St:=St.of (h.lv.map fun n=>(n,st.env n)) ((h.ls++h.lr).map fun n=>(n,st.aT n))
theorem qM (f:Nat→AV) (n:Nat) : ∀l:List Nat,gJ (l.map fun n=>(n,f n)) n=f n∨gJ (l.map fun n=>(n,f n)) n= .undef
 | []=> .inr rfl
 | m::l=>by
  simp only [List.map_cons,gJ]
  cases h:Nat.beq n m with
  | true=>exact .inl (by rw [Nat.eq_of_beq_eq_true h]; rfl)
  | false=>exact qM f n l
theorem qN (f:Nat→Option Ob) (n:Nat) : ∀l:List Nat,gq (l.map fun n=>(n,f n)) n=f n∨gq (l.map fun n=>(n,f n)) n=none
 | []=> .inr rfl
 | m::l=>by
  simp only [List.map_cons,gq]
  cases h:Nat.beq n m with
  | true=>exact .inl (by rw [Nat.eq_of_beq_eq_true h]; rfl)
  | false=>exact qN f n l
theorem St.ya (st:St) (h:Hint) (n:Nat) :(st.dU h).env n=st.env n∨(st.dU h).env n= .undef:=qM st.env n h.lv
theorem St.Fy (st:St) (h:Hint) (n:Nat) :(st.dU h).aT n=st.aT n∨(st.dU h).aT n=none:=qN st.aT n (h.ls++h.lr)
def St.si (st:St) :Option Hint→St
 | none=>st
 | some h=>st.dU h
def sj (op:BinOp) (k:IntKind) (x y:Int) :aH:=
 match op with
 | .add=>some (.int k (k.wrap (x+y)))
 | .sub=>some (.int k (k.wrap (x - y)))
 | .mul=>some (.int k (k.wrap (x * y)))
 | .quo=>if y=0 then none else some (.int k (k.wrap (x.tdiv y)))
 | .rem=>if y=0 then none else some (.int k (x.tmod y))
 | .and=>some (.int k (k.wrap (BitVec.ofInt k.bits x &&& BitVec.ofInt k.bits y).toNat))
 | .or=>some (.int k (k.wrap (BitVec.ofInt k.bits x ||| BitVec.ofInt k.bits y).toNat))
 | .xor=>some (.int k (k.wrap (BitVec.ofInt k.bits x ^^^ BitVec.ofInt k.bits y).toNat))
 | .eql=>some (.bool (x==y))
 | .neq=>some (.bool (x !=y))
 | .lss=>some (.bool (decide (x < y)))
 | .leq=>some (.bool (decide (x≤y)))
 | .gtr=>some (.bool (decide (x > y)))
 | .geq=>some (.bool (decide (x≥y)))
 | _=>none
def At (op:BinOp) :AV→AV→Option AV
 | .d (.int k x),.d (.int k' y)=>if k=k' then (sj op k x y).map .d else none
 | _,_=>none
def IK (neg:Bool) :AV→AV→Option AV
 | .d (.bool x),.d (.bool y)=>some (.d (.bool (cond neg (!(x==y)) (x==y))))
 | _,_=>none
def oq (op:BinOp) (k:IntKind) (x y:Int) :aH:=
 if y < 0 then none else
 match op with
 | .shl=>some (.int k (k.wrap (x * 2 ^ (min y.toNat k.bits))))
 | .shr=>some (.int k (x.fdiv (2 ^ (min y.toNat k.bits))))
 | _=>none
def pM (op:BinOp) :AV→AV→Option AV
 | .d (.int k x),.d (.int _ y)=>(oq op k x y).map .d
 | _,_=>none
def aUn (op:UnOp) :AV→Option AV
 | .d (.int k n)=>
  match op with
  | .neg=>some (.d (.int k (k.wrap (0 - n))))
  | _=>none
 | .d (.bool b)=>
  match op with
  | .not=>some (.d (.bool !b))
  | _=>none
 | _=>none
def yb (k:IntKind) :AV→Option AV
 | .d (.int _ n)=>some (.d (.int k (k.wrap n)))
 | _=>none
def ot:List AV→List AV→Option Bool
 | [],[]=>some true
 | .d (.int k x)::l,.d (.int k' y)::m=>if k=k' then (ot l m).map ((x==y)&& ·) else none
 | _,_=>none
def AV.ou:AV→Option (List AV)
 | .d (.agg cs)=>some (cs.map .d)
 | .agg cs=>some cs
 | _=>none
def IL (neg:Bool) (n:Nat) (x y:AV) :Option AV:=
 match x.ou,y.ou with
 | some xs,some ys=>if xs.length=n∧ys.length=n then (ot xs ys).map fun b=> .d (.bool (cond neg (!b) b)) else none
 | _,_=>none
def IM (neg:Bool) :AV→Option AV
 | .d .af=>some (.d (.bool (!neg)))
 | .d (.sl _ _ _)=>some (.d (.bool neg))
 | .d (.ag _ _ es)=>cond (Nat.beq es.length 0) none (some (.d (.bool neg)))
 | .ah _ _ _ _=>some (.d (.bool neg))
 | _=>none
def B7 (neg:Bool) :AV→Option AV
 | .d .bn=>some (.d (.bool (!neg)))
 | .d (.aI _ _)=>some (.d (.bool neg))
 | .ptr _ _ _ _=>some (.d (.bool neg))
 | _=>none
def yc (rQ n:Nat) :AV→AV→Option AV
 | .d (.aI e o),.d (.int _ i)=>if 0≤i∧i < n then some (.d (.aI e (o+i.toNat * rQ))) else none
 | .ptr s sz j o,.d (.int _ i)=>if 0≤i∧i < n then some (.ptr s sz j (o+i.toNat * rQ)) else none
 | _,_=>none
def FA:AV→Option AV
 | .d .af=>some (.d (.int .i64 0))
 | .d (.sl _ _ es)=>some (.d (.int .i64 es.length))
 | .d (.ag _ _ es)=>some (.d (.int .i64 es.length))
 | .ah _ _ _ n=>some (.d (.int .i64 n))
 | .mA _ _ _ _ n=>some (.d (.int .i64 n))
 | _=>none
def nu (off:Nat) :AV→Option AV
 | .d (.aI e o)=>some (.d (.aI e (o+off)))
 | .ptr s sz i o=>some (.ptr s sz i (o+off))
 | _=>none
def ig (sz:Nat) :AV→AV→Option AV
 | .d (.sl _ bd es),.d (.int _ i)=>
  if sz=bd∧0≤i then (es[i.toNat]?).map fun e=> .d (.aI e 0) else none
 | .d (.ag _ bd es),.d (.int _ i)=>
  if sz=bd∧0≤i then (es[i.toNat]?).map fun e=> .d (.aI e 0) else none
 | .ah s bd off n,.d (.int _ i)=>
  if sz=bd∧0≤i∧i < n then some (.ptr s sz (off+i.toNat) 0) else none
 | .mA s bd r off n,.d (.int _ i)=>
  if sz=1∧0≤i∧i < n then some (.ptr s bd r (off+i.toNat)) else none
 | _,_=>none
def FB (i:Nat) :AV→Option AV
 | .tuple vs=>vs[i]?
 | .d (.tuple vs)=>(vs[i]?).map .d
 | _=>none
def wy (agg:Bool) (sz off:Nat) (e:aw) :Option AV:=
 if agg then (if off+sz≤e.length then some (.d (.agg ((e.drop off).take sz))) else none) else (e[off]?).map .d
def DS (agg:Bool) (sz off:Nat) (e:List AV) :Option AV:=
 if agg then (if off+sz≤e.length then some (.agg ((e.drop off).take sz)) else none) else e[off]?
def dJ (st:St) (agg:Bool) (sz:Nat) :AV→Option AV
 | .d (.aI e off)=>wy agg sz off e
 | .ptr s bd i off=>
  match st.aT s with
  | some (.aC _ cO es)=>if bd=cO then (es[i]?).bind (wy agg sz off) else none
  | some (.mix _ cO es)=>if bd=cO then (es[i]?).bind (DS agg sz off) else none
  | none=>none
 | _=>none
def aU {α:Type} (e:List α) (off:Nat) (cs:List α) :List α:=e.take off++cs++e.drop (off+cs.length)
def fE (st:St) (sz:Nat) (a x:AV) :Option St:=
 match a with
 | .ptr s bd i off=>
  let cs:=x.cells
  if cs.length=sz∧cs.all AV.one then
   match st.aT s with
   | some (.aC el cO es)=>
    if bd=cO then
     match es[i]? with
     | some e=>
      if off+sz≤e.length then
       match dH cs with
       | some ds=>some (st.jJ s (.aC el cO (es.set i (aU e off ds))))
       | none=>some (st.jJ s (.mix el cO ((es.map (·.map AV.d)).set i (aU (e.map AV.d) off cs))))
      else none
     | none=>none
    else none
   | some (.mix el cO es)=>
    if bd=cO then
     match es[i]? with
     | some e=>if off+sz≤e.length then some (st.jJ s (.mix el cO (es.set i (aU e off cs)))) else none
     | none=>none
    else none
   | none=>none
  else none
 | _=>none
def k6 (st:St) (cells:List AV) :List (Nat×Nat×AX)→Option (List AV)
 | []=>some cells
 | (off,size,x)::l=>
  let cs:=(x.ev st).cells
  if cs.length=size∧off+size≤cells.length∧cs.all AV.one then k6 st (aU cells off cs) l else none
def uU (cs:List AV) :AV:=match dH cs with | some ds=> .d (.agg ds) | none=> .agg cs
def intMax:List AV→Option AV
 | []=>none
 | v::l=>l.foldl (fun a b=>match a,b with
  | some (.d (.int k x)),.d (.int k' y)=>if k=k' then some (.d (.int k (if y > x then y else x))) else none
  | _,_=>none) (some v)
def intMin:List AV→Option AV
 | []=>none
 | v::l=>l.foldl (fun a b=>match a,b with
  | some (.d (.int k x)),.d (.int k' y)=>if k=k' then some (.d (.int k (if y < x then y else x))) else none
  | _,_=>none) (some v)
def dV (st:St) :Option AX→Option (Option Int)
 | none=>some none
 | some x=>match x.ev st with | .d (.int _ n)=>some (some n) | _=>none
def iL (st:St) (sz:Nat) (x:AV) (lo hi mx:Option AX) :Option AV:=
 match dV st lo,dV st hi,dV st mx with
 | some lo,some hi,some mx=>
  let l:=lo.getD 0
  match x with
  | .d .af=>
   if l=0∧hi.getD 0=0∧mx.getD 0=0∧(mx.isSome→hi.isSome) then some (.d .af) else none
  | .d (.sl k bd es)=>
   let h:=hi.getD es.length
   if sz=bd∧0≤l∧l≤h∧h≤es.length then
    match mx with
    | none=>some (.d (.sl (if h=es.length∧k= .tight then .tight else .ro) sz ((es.take h.toNat).drop l.toNat)))
    | some m=>if hi.isSome∧m=h then some (.d (.sl .tight sz ((es.take h.toNat).drop l.toNat))) else none
   else none
  | .d (.ag _ bd es)=>
   let h:=hi.getD es.length
   if (sz=bd∨es.length=0)∧0≤l∧l≤h∧h≤es.length then
    match mx with
    | none=>some (.d (.ag false sz ((es.take h.toNat).drop l.toNat)))
    | some m=>if hi.isSome∧m=h then some (.d (.ag true sz ((es.take h.toNat).drop l.toNat))) else none
   else none
  | .ah s bd off n=>
   let h:=hi.getD n
   if sz=bd∧0≤l∧l≤h∧h≤n∧mx=none then some (.ah s sz (off+l.toNat) (h - l).toNat) else none
  | _=>none
 | _,_,_=>none
def sk (st:St) (n:Nat) (x:AV) (lo hi:Option AX) :Option AV:=
 match dV st lo,dV st hi with
 | some lo,some hi=>
  let l:=lo.getD 0
  let h:=hi.getD n
  if 0≤l∧l≤h∧h≤n then
   match x with
   | .ptr s sz i off=>some (.mA s sz i (off+l.toNat) (h - l).toNat)
   | .d (.aI e off)=>if off+n≤e.length then some (.d (.sl .ro 1 (((e.drop (off+l.toNat)).take (h - l).toNat).map fun c=>[c]))) else none
   | _=>none
  else none
 | _,_=>none
def DV.uv (z:DV) (c:DV) :Bool:=
 match z,c with
 | .int q _,.int q' _=>decide (q'=q)
 | .int _ _,_=>false
 | .bool _,.bool _=>true
 | .bool _,_=>false
 | .af,.ag _ _ _=>true
 | .af,_=>false
 | _,_=>true
def ov:aw→aw→Bool
 | z::zs,c::cs=>z.uv c&&ov zs cs
 | _,_=>true
def aq (z e:aw) :Bool:=Nat.beq e.length z.length&&ov z e
def DV.ak:DV→Int
 | .int _ n=>n
 | _=>0
def DV.toB:DV→Bool
 | .bool b=>b
 | _=>false
def DV.slT:DV→Bool
 | .ag k _ _=>k
 | _=>false
def DV.B9:DV→Nat
 | .ag _ sz _=>sz
 | _=>0
def DV.pK:DV→aj
 | .ag _ _ es=>es
 | _=>[]
def pN (z c:DV) :DV:=
 match z with
 | .int q _=> .int q c.ak
 | .bool _=> .bool c.toB
 | .af=> .ag c.slT c.B9 c.pK
 | _=>c
def DV.Ak (z:DV) (c:DV) :Bool:=
 match z with
 | .af=>true
 | z=>z.uv c
def ke:aw→aw→Bool
 | z::zs,c::cs=>z.Ak c&&ke zs cs
 | _,_=>true
def jF (z e:aw) :Bool:=Nat.beq e.length z.length&&ke z e
def Li (z c:DV) :DV:=
 match z with
 | .af=>c
 | z=>pN z c
def aa (e:aw) (i:Nat) :DV:=(e.drop i).headD .bn
def rowAt:aw→aw→Nat→aw
 | [],_,_=>[]
 | z::zs,e,i=>pN z (aa e i)::rowAt zs e (i+1)
def rowOf (z e:aw) :aw:=rowAt z e 0
theorem mB {z c:DV} (h:z.uv c=true) :pN z c=c:=by
 cases z<;>first
  | rfl
  | (cases c<;>simp_all [DV.uv,pN,DV.ak,DV.toB,DV.slT,DV.B9,DV.pK])
theorem FC {z c:DV} (h:z.Ak c=true) :Li z c=c:=by
 cases z<;>first
  | rfl
  | exact mB h
def wz:aw→aw→Nat→aw
 | [],_,_=>[]
 | z::zs,e,i=>Li z (aa e i)::wz zs e (i+1)
def FD (z e:aw) :aw:=wz z e 0
theorem uV: ∀{z e:aw} {i:Nat},jF z (e.drop i)=true→wz z e i=e.drop i
 | [],e,i,h=>by
  cases hd:e.drop i with
  | nil=>rfl
  | cons c l=>simp [hd,jF] at h
 | z::zs,e,i,h=>by
  cases hd:e.drop i with
  | nil=>simp [hd,jF] at h
  | cons c l=>
   have hl:e.drop (i+1)=l:=by
    rw [show i+1=1+i by omega,Nat.add_comm,← List.drop_drop,hd]
    rfl
   simp only [hd,jF,List.length_cons,ke,Bool.and_eq_true,Nat.beq_eq_true_eq,Nat.add_right_cancel_iff] at h
   simp only [wz,aa,hd,List.headD_cons,FC h.2.1]
   rw [uV (z:=zs) (e:=e) (i:=i+1),hl]
   rw [hl]
   simp only [jF,Bool.and_eq_true,Nat.beq_eq_true_eq]
   exact ⟨h.1,h.2.2⟩
theorem DU {z e:aw} (h:jF z e=true) :FD z e=e:=uV (i:=0) h
theorem yd: ∀{z e:aw} {i:Nat},aq z (e.drop i)=true→rowAt z e i=e.drop i
 | [],e,i,h=>by
  cases hd:e.drop i with
  | nil=>rfl
  | cons c l=>simp [hd,aq] at h
 | z::zs,e,i,h=>by
  cases hd:e.drop i with
  | nil=>simp [hd,aq] at h
  | cons c l=>
   have hl:e.drop (i+1)=l:=by
    rw [show i+1=1+i by omega,Nat.add_comm,← List.drop_drop,hd]
    rfl
   simp only [hd,aq,List.length_cons,ov,Bool.and_eq_true,Nat.beq_eq_true_eq,Nat.add_right_cancel_iff] at h
   simp only [rowAt,aa,hd,List.headD_cons,mB h.2.1]
   rw [yd (z:=zs) (e:=e) (i:=i+1),hl]
   rw [hl]
   simp only [aq,Bool.and_eq_true,Nat.beq_eq_true_eq]
   exact ⟨h.1,h.2.2⟩
theorem FE {z e:aw} (h:aq z e=true) :rowOf z e=e:=yd (i:=0) h
def FF (z:aw) (v:AV) :Option AV:=
 match v with
 | .d (.aI e off)=>if aq z e then some (.d (.aI e off)) else none
 | v=>some v
theorem wA {z:aw} {v v':AV} (h:FF z v=some v') :v'=v:=by
 unfold FF at h
 split at h
 ·split at h<;>cases h
  rfl
 ·cases h
  rfl
def Al (agg:Bool) (z:aw) (v:AV) :Option AV:=
 match agg,v with
 | true,.d (.agg cs)=>if jF z cs then some v else none
 | false,.d c=>if ke z [c] then some v else none
 | _,v=>some v
theorem Au {agg:Bool} {z:aw} {v v':AV} (h:Al agg z v=some v') :v'=v:=by
 unfold Al at h
 split at h
 ·split at h<;>cases h
  rfl
 ·split at h<;>cases h
  rfl
 ·cases h
  rfl
def bw (st:St) :bN→Option AV
 | .mv x=>some (x.ev st)
 | .pick c a b=>
  match c with
  | .t t=>
   match st.env t with
   | .d (.bool cb)=>
    match a.ev (st.under t true),b.ev (st.under t false) with
    | .d (.bool x),.d (.bool y)=>some (.d (.bool (cond cb x y)))
    | .d (.int k x),.d (.int k' y)=>if k=k' then some (.d (.int k (cond cb x y))) else none
    | x,y=>some (if cb then x else y)
   | _=>none
  | _=>none
 | .build z parts=>(k6 st (z.map .d) parts).map uU
 | .load agg sz x z=>(dJ st agg sz (x.ev st)).bind (Al agg z)
 | .bin op x y=>At op (x.ev st) (y.ev st)
 | .IJ neg x y=>IK neg (x.ev st) (y.ev st)
 | .eqs neg n x y=>IL neg n (x.ev st) (y.ev st)
 | .lh op x y=>pM op (x.ev st) (y.ev st)
 | .un op x=>aUn op (x.ev st)
 | .conv k x=>yb k (x.ev st)
 | .aD off x=>nu off (x.ev st)
 | .bc sz x i z=>(ig sz (x.ev st) (i.ev st)).bind (FF z)
 | .slice sz x lo hi mx=>iL st sz (x.ev st) lo hi mx
 | .ext x i=>FB i (x.ev st)
 | .len x=>FA (x.ev st)
 | .mx xs=>intMax (xs.map (·.ev st))
 | .mn xs=>intMin (xs.map (·.ev st))
 | .jq neg x=>IM neg (x.ev st)
 | .eH neg x=>B7 neg (x.ev st)
 | .du rQ n x i=>yc rQ n (x.ev st) (i.ev st)
 | .mU n x lo hi=>sk st n (x.ev st) lo hi
 | .kd f caps=>some (match dH (caps.map (·.ev st)) with | some ds=> .d (.func f ds) | none=> .func f (caps.map (·.ev st)))
 | _=>none
def cellS:DV→DV
 | .sl _ sz es=> .ag false sz es
 | .af=> .ag false 0 []
 | x=>x
def bp (st:St) :Nat→AV→aH
 | _,.d x=>some x
 | 0,_=>none
 | n+1,.ah s sz off len=>
  match st.aT s with
  | some (.aC _ bd es)=>if sz=bd∧off+len≤es.length then some (.sl .ro sz ((es.drop off).take len)) else none
  | some (.mix _ bd es)=>
   if sz=bd∧off+len≤es.length then (((es.drop off).take len).mapM fun e=>List.mapM (fun c=>(bp st n c).map cellS) e).map (.sl .ro sz) else none
  | none=>none
 | n+1,.ptr s sz i off=>
  match st.aT s with
  | some (.aC _ bd es)=>if sz=bd then (es[i]?).map fun e=> .aI e off else none
  | some (.mix _ bd es)=>if sz=bd then (es[i]?).bind fun e=>(List.mapM (fun c=>(bp st n c).map cellS) e).map fun e=> .aI e off else none
  | none=>none
 | n+1,.mA s sz i off m=>
  match st.aT s with
  | some (.aC _ bd es)=>if sz=bd then (es[i]?).bind fun e=>if off+m≤e.length then some (.sl .ro 1 (((e.drop off).take m).map fun c=>[c])) else none else none
  | _=>none
 | n+1,.func f cs=>(cs.mapM (bp st n)).map (.func f)
 | n+1,.agg cs=>(cs.mapM (bp st n)).map .agg
 | n+1,.tuple cs=>(cs.mapM (bp st n)).map .tuple
 | _+1,.w _ _ _=>none
 | _+1,.undef=>none
def snap (st:St) (v:AV) :aH:=bp st 6 v
def St.freeze (st:St) :St:={env:=fun n=>match snap st (st.env n) with | some x=> .d x | none=> .undef,aT:=fun _=>none}
def bV (t:Nat) :Nat→aw→St→List AV×St
 | _,[],st=>([],st)
 | j,.sl (.own el) sz es::l,st=>
  let r:=bV t (j+1) l (st.at_ (t+100000 * j) (.aC el sz es))
  (.ah (t+100000 * j) sz 0 es.length::r.1,r.2)
 | j,x::l,st=>let r:=bV t (j+1) l st; (.d x::r.1,r.2)
def cN (t:Nat) :Nat→aj→St→List (List AV)×St
 | _,[],st=>([],st)
 | j,e::es,st=>
  let q:=bV t j e st
  let r:=cN t (j+e.length) es q.2
  (q.1::r.1,r.2)
def gK:aj→Nat
 | []=>0
 | e::es=>e.length+gK es
def bX (t:Nat) :Nat→aw→St→List AV×St
 | _,[],st=>([],st)
 | j,.sl (.own el) sz es::l,st=>
  let r:=bX t (j+1) l (st.at_ (t+100000 * j) (.aC el sz es))
  (.ah (t+100000 * j) sz 0 es.length::r.1,r.2)
 | j,.sl (.cT el) sz es::l,st=>
  let q:=cN t (j+1) es st
  let r:=bX t (j+1+gK es) l (q.2.at_ (t+100000 * j) (.mix el sz q.1))
  (.ah (t+100000 * j) sz 0 es.length::r.1,r.2)
 | j,x::l,st=>let r:=bX t (j+1) l st; (.d x::r.1,r.2)
def place (t:Nat) (r:DV) (st:St) :St:=
 match r with
 | .sl (.own el) sz es=>(st.at_ t (.aC el sz es)).put t (.ah t sz 0 es.length)
 | .sl (.cT el) sz es=>let r:=bX t 1 [.sl (.cT el) sz es] st; r.2.put t (r.1.headD .undef)
 | .tuple vs=>if vs.any DV.dX then (let r:=bX t 1 vs st; r.2.put t (.tuple r.1)) else st.put t (.d (.tuple vs))
 | .agg vs=>if vs.any DV.dX then (let r:=bX t 1 vs st; r.2.put t (.agg r.1)) else st.put t (.d (.agg vs))
 | x=>st.put t (.d x)
def dq (st:St) (sz:Nat) (rows:List (List AV)) :List (Nat×AX)→Option (List (List AV))
 | []=>some rows
 | (i,x)::l=>
  let cs:=(x.ev st).cells
  if cs.length=sz∧i < rows.length∧cs.all AV.one then dq st sz (rows.set i cs) l else none
def g5:List (List AV)→Option aj
 | []=>some []
 | e::l=>match dH e,g5 l with | some a,some b=>some (a::b) | _,_=>none
def kg (el sz:Nat) (rows:List (List AV)) :Ob:=
 match g5 rows with
 | some ds=> .aC el sz ds
 | none=> .mix el sz rows
def room:Nat:=1099511627776
def bm {α β:Type} (f:α→Option β) :List α→Option (List β)
 | []=>some []
 | x::l=>match f x,bm f l with | some y,some m=>some (y::m) | _,_=>none
def elems (st:St) (sz:Nat) :AV→Option aj
 | .d .af=>some []
 | .d (.sl _ bd es)=>if sz=bd then some es else none
 | .d (.ag _ bd es)=>if sz=bd∨es.length=0 then some es else none
 | .ah s bd off len=>
  match st.aT s with
  | some (.aC _ cO es)=>if sz=bd∧sz=cO∧off+len≤es.length then some ((es.drop off).take len) else none
  | _=>none
 | .mA s bd i off n=>
  match st.aT s with
  | some (.aC _ cO es)=>if sz=1∧bd=cO then (es[i]?).bind fun e=>if off+n≤e.length then some (((e.drop off).take n).map fun c=>[c]) else none else none
  | _=>none
 | _=>none
def alt (s t:Nat) :Nat:=cond (Nat.beq s t) (t+50000) t
def eK (st:St) (t el sz bytes:Nat) (x y:AV) :Option St:=
 match elems st sz y with
 | none=>none
 | some news=>
  if news.length=0 then
   (match x with
    | .d .af=>some (st.put t x)
    | .d (.sl _ _ _)=>some (st.put t x)
    | .d (.ag _ _ _)=>some (st.put t x)
    | .ah _ _ _ _=>some (st.put t x)
    | _=>none)
  else if news.all (fun e=>e.length==sz&&e.all DV.one) then
   match x with
   | .d .af=>
    if news.length * bytes≤room∧news.length≤room then some ((st.at_ t (.aC el sz news)).put t (.ah t sz 0 news.length)) else none
   | .d (.sl .tight bd es)=>
    if bd=sz∧(es++news).length * bytes≤room∧(es++news).length≤room∧es.all (fun e=>e.length==sz&&e.all DV.one) then
     some ((st.at_ t (.aC el sz (es++news))).put t (.ah t sz 0 (es++news).length))
    else none
   | .d (.ag true bd es)=>
    if bd=sz∧(es++news).length * bytes≤room∧(es++news).length≤room∧es.all (fun e=>e.length==sz&&e.all DV.one) then
     some ((st.at_ t (.aC el sz (es++news))).put t (.ah t sz 0 (es++news).length))
    else none
   | .ah s bd off len=>
    match st.aT s with
    | some (.aC DW cO es)=>
     if DW=el∧bd=sz∧cO=sz∧off=0∧len=es.length∧(es++news).length * bytes≤room∧(es++news).length≤room then
      some (((st.drop s).at_ (alt s t) (.aC el sz (es++news))).put t (.ah (alt s t) sz 0 (es++news).length))
     else none
    | _=>none
   | _=>none
  else none
def qO (st:St) (x y:AV) :Option (Nat×St):=
 match x,elems st 1 y with
 | .mA s sz i off n,some news=>
  match st.aT s with
  | some (.aC el bd es)=>
   if sz=bd then
    match es[i]? with
    | some e=>
     if off+n≤e.length∧news.all (fun r=>r.length==1&&r.all DV.one)=true then
      some (min news.length n,st.jJ s (.aC el sz (es.set i (aU e off ((news.take n).map fun r=>r.headD .bn)))))
     else none
    | none=>none
   else none
  | _=>none
 | _,_=>none
mutual
def AV.sites:AV→List Nat
 | .d _=>[]
 | .ah s _ _ _=>[s]
 | .ptr s _ _ _=>[s]
 | .mA s _ _ _ _=>[s]
 | .func _ cs=>bo cs
 | .agg cs=>bo cs
 | .tuple cs=>bo cs
 | .w _ _ v=>v.sites
 | .undef=>[]
def bo:List AV→List Nat
 | []=>[]
 | v::l=>v.sites++bo l
end
def nodup:List Nat→Bool
 | []=>true
 | x::l=> !l.contains x&&nodup l
def ow:List Nat→List Nat→Bool
 | [],[]=>true
 | a::l,b::m=>Nat.beq a b&&ow l m
 | _,_=>false
def idxOf:List Nat→Nat→Option Nat
 | [],_=>none
 | a::l,s=>cond (Nat.beq a s) (some 0) ((idxOf l s).map (·+1))
mutual
def AV.enc (R:List Nat) :AV→aH
 | .d x=>some (.func 0 [x])
 | .ah s sz off n=>(idxOf R s).map fun j=> .tuple [.aI [] j,.aI [] sz,.aI [] off,.aI [] n]
 | .ptr s sz i off=>(idxOf R s).map fun j=> .agg [.aI [] j,.aI [] sz,.aI [] i,.aI [] off]
 | .agg cs=>(gL R cs).map fun l=> .sl .ro 0 [l]
 | .tuple cs=>(gL R cs).map fun l=> .sl .tight 0 [l]
 | _=>none
def gL (R:List Nat) :List AV→Option aw
 | []=>some []
 | v::l=>match v.enc R,gL R l with | some x,some m=>some (x::m) | _,_=>none
end
mutual
def DV.dec (τ:Nat→Nat) :DV→AV
 | .func _ [x]=> .d x
 | .tuple [.aI _ j,.aI _ sz,.aI _ off,.aI _ n]=> .ah (τ j) sz off n
 | .agg [.aI _ j,.aI _ sz,.aI _ i,.aI _ off]=> .ptr (τ j) sz i off
 | .sl .ro _ [l]=> .agg (jK τ l)
 | .sl .tight _ [l]=> .tuple (jK τ l)
 | _=> .undef
def jK (τ:Nat→Nat) :aw→List AV
 | []=>[]
 | x::l=>x.dec τ::jK τ l
end
def nb (R:List Nat) :List (List AV)→Option aj
 | []=>some []
 | e::l=>match gL R e,nb R l with | some x,some m=>some (x::m) | _,_=>none
def Ob.enc (R:List Nat) :Ob→aH
 | .aC el sz es=>some (.mv el sz es)
 | .mix el sz es=>(nb R es).map fun rows=> .sl (.own el) sz rows
def DV.ll (τ:Nat→Nat) :DV→Option Ob
 | .mv el sz es=>some (.aC el sz es)
 | .sl (.own el) sz rows=>some (kg el sz (rows.map (jK τ)))
 | _=>none
def St.named (st:St) (s:Nat) :List Nat:=
 match st.aT s with
 | some (.mix _ _ es)=>es.flatMap fun e=>e.flatMap fun v=>match v with | .ah s _ _ _=>[s] | .ptr s _ _ _=>[s] | _=>[]
 | _=>[]
def names:List AV→List Nat
 | []=>[]
 | .ah s _ _ _::l=>s::names l
 | .ptr s _ _ _::l=>s::names l
 | .agg cs::l=>FG cs++names l
 | .tuple cs::l=>FG cs++names l
 | _::l=>names l
where
 FG:List AV→List Nat
  | []=>[]
  | .ah s _ _ _::l=>s::FG l
  | .ptr s _ _ _::l=>s::FG l
  | _::l=>FG l
def reach (st:St) :Nat→List Nat→List Nat→List Nat
 | 0,_,R=>R
 | _+1,[],R=>R
 | n+1,s::l,R=>cond (R.contains s) (reach st n l R) (reach st n (st.named s++l) (R++[s]))
def nc (st:St) (R:List Nat) :List Nat→Option aw
 | []=>some []
 | s::l=>match (st.aT s).bind (Ob.enc R),nc st R l with | some x,some m=>some (x::m) | _,_=>none
def Ca (st:St) (R:List Nat) (s:Nat) :aH:=match st.aT s with | none=>some .bn | some o=>o.enc R
def iM (st:St) (R:List Nat) :List Nat→Option aw
 | []=>some []
 | s::l=>match Ca st R s,iM st R l with | some x,some m=>some (x::m) | _,_=>none
def pad (d:DV) :aw:=[.bn,.bn,.bn,.bn,.bn,.bn,.bn,.bn,.bn,.bn,.bn,.bn,d]
def sm (st:St) (avs:List AV) :Option (List Nat×DV):=
 let R:=reach st 60 (names avs) []
 match gL R avs,nc st R R with
 | some vs,some os=>cond (nodup R) (some (R,.gi vs os)) none
 | _,_=>none
def gM (j:Nat) :Nat:=100000 * j+99999
def kj:Nat→aw→List (Nat×Option Ob)
 | _,[]=>[]
 | j,x::l=>(gM j,x.ll gM)::kj (j+1) l
def gr:Nat→aw→List (Nat×AV)
 | _,[]=>[]
 | j,x::l=>(j,x.dec gM)::gr (j+1) l
def St.oz (vs os:aw) :St:=St.of (gr 0 vs) (kj 0 os)
def Av (st:St) (k:Nat) (v:AV) :aH:=
 let R0:=(List.range k).map gM
 let R:=reach st 60 (R0.flatMap st.named++names [v]) R0
 match v.enc R,iM st R R with
 | some x,some os=>cond (nodup R&&ow (R.take k) R0) (some (.gi [x] os)) none
 | _,_=>none
def St.gu:List Nat→St→St
 | [],st=>st
 | s::l,st=>St.gu l (st.gE s)
def St.inner (st:St) (s:Nat) :List Nat:=
 match st.aT s with
 | some (.mix _ _ es)=>es.flatMap fun e=>bo e
 | _=>[]
def AV.fz (st:St) (R:List Nat) (v:AV) :AV:=cond (v.sites.any R.contains) (match cond (v.sites.all R.contains) (snap st v) none with | some x=> .d x | none=> .undef) v
def St.mC (R:List Nat) (st:St) :St:={env:=fun n=>(st.env n).fz st R,aT:=(St.gu R st).aT}
def DX (st:St) (R:List Nat) (avs:List AV) :Bool:=avs.all (fun v=>v.sites.all R.contains)&&R.all fun s=>(st.inner s).all R.contains
def St.oA (args:List AV) (st:St) :St:=cond (DX st (reach st 60 (names args) []) args) (st.mC (reach st 60 (names args) [])) st.freeze
def FH (t:Nat) (args:List AV) (r:DV) (st:St) :St:=
 place t r (if ba args&& !r.dz then st.oA args else st)
def ln (τ:Nat→Nat) :Nat→aw→List (Nat×Option Ob)
 | _,[]=>[]
 | j,x::l=>(τ j,x.ll τ)::ln τ (j+1) l
def St.uF (st:St) (l:List (Nat×Option Ob)) :St:={st with aT:=fun n=>ye l n (st.aT n)}
where
 ye:List (Nat×Option Ob)→Nat→Option Ob→Option Ob
  | [],_,o=>o
  | (m,v)::l,n,o=>cond (Nat.beq n m) v (ye l n o)
def jL (R:List Nat) (t b j:Nat) :Nat:=match R[j]? with | some s=>s | none=>t+100000 * (j+1+b)
def dK (τ:Nat→Nat) :Nat→Nat→List Nat
 | 0,_=>[]
 | n+1,j=>τ j::dK τ n (j+1)
def FI (R:List Nat) (t m:Nat) :Nat:=cond ((dK (jL [] t 0) (m - R.length) R.length).any R.contains) 1000 0
def FJ (el off:Nat) :Bool:=([(140,17),(164,1),(164,3)] :List (Nat×Nat)).any fun p=>Nat.beq p.1 el&&Nat.beq p.2 off
def FL (el:Nat) :Nat→List AV→List Nat
 | _,[]=>[]
 | off,v::l=>(match v with | .ah s _ _ _=>cond (FJ el off) [] [s] | _=>[])++FL el (off+1) l
def St.loose (st:St) :List Nat→List Nat
 | []=>[]
 | s::l=>(match st.aT s with | some (.mix el _ es)=>es.flatMap (FL el 0) | _=>[])++st.loose l
def Ob.fz (st:St) (R:List Nat) :Ob→Option Ob
 | .aC el sz es=>some (.aC el sz es)
 | .mix el sz es=>cond ((es.map fun e=>e.map (AV.fz st R)).all fun e=>e.all AV.one) (some (kg el sz (es.map fun e=>e.map (AV.fz st R)))) none
def St.uW (R:List Nat) (st:St) :St:={env:=(St.gu R st).env,aT:=fun n=>cond (R.contains n) none ((st.aT n).bind (Ob.fz st R))}
def St.nv (st:St) (T:List Nat) :List Nat:=st.loose T++(st.loose T).flatMap st.inner
def DY (st:St) (R:List Nat) :Bool:= !R.isEmpty&&R.all fun s=>(st.inner s).all R.contains
def St.tidy (T:List Nat) (st:St) :St:=cond (DY st (st.nv T)) (st.uW (st.nv T)) st
def qP (R:List Nat) (t:Nat) (dst:Option Nat) (r:DV) (st:St) :Option St:=
 match r with
 | .gi [x] os=>
  let τ:=jL R t (FI R t os.length)
  cond (Nat.ble R.length os.length&&nodup (dK τ os.length 0))
   (some ((St.tidy (dK τ os.length 0) ((St.gu (dK τ (os.length - R.length) R.length) st).uF (ln τ 0 os))).uE dst (x.dec τ))) none
 | _=>none
def DV.isNil:DV→Bool
 | .af=>true
 | _=>false
def AV.DZ:AV→AV
 | .d x=> .d (cellS x)
 | v=>v
def gw (z:aw) (rows:List (List AV)) :List (List AV):=cond (z.any DV.isNil) (rows.map fun e=>e.map AV.DZ) rows
def rD (t:Nat) (args:List AV) (r:DV) (st:St) :Option St:=
 if r.dX&&(ba args&& !r.dz) then none else some (FH t args r st)
def aK (call:FuncId→aw→aH) (dst:Option Nat) (op:bN) (st:St) :Option St:=
 match op,dst with
 | .store sz a x,none=>fE st sz (a.ev st) (x.ev st)
 | .box el sz x,some t=>
  let cs:=(x.ev st).cells
  if cs.length=sz∧cs.all AV.one∧eJ t cs=false then some ((st.at_ t (kg el sz [cs])).put t (.ptr t sz 0 0)) else none
 | .alloc el sz z,some t=>if z.length=sz∧z.all DV.one then some ((st.at_ t (.aC el sz [z])).put t (.ptr t sz 0 0)) else none
 | .aF el sz len z parts,some t=>
  if z.length=sz∧z.all DV.one then
   match dq st sz (List.replicate len (z.map .d)) parts with
   | some rows=>if rows.any (eJ t) then none else some ((st.at_ t (kg el sz (gw z rows))).put t (.ah t sz 0 len))
   | none=>none
  else none
 | .b7 el sz bytes z l c,some t=>
  match l.ev st,c.ev st with
  | .d (.int _ m),.d (.int _ n)=>
   if 0≤m∧m≤n∧n.toNat * bytes≤room∧n.toNat≤room∧z.length=sz∧z.all DV.one then
    some ((st.at_ t (.aC el sz (List.replicate m.toNat z))).put t (.ah t sz 0 m.toNat))
   else none
  | _,_=>none
 | .append el sz bytes x y,some t=>eK st t el sz bytes (x.ev st) (y.ev st)
 | .call f args,some t=>
  match bm (snap st) (args.map (·.ev st)) with
  | some ds=>(call f ds).bind fun r=>rD t (args.map (·.ev st)) r st
  | none=>none
 | .eO f x args,some t=>
  match x.ev st with
  | .ah s sz off len=>
   match st.aT s with
   | some (.aC el bd es)=>
    if bd=sz∧off=0∧len=es.length∧ba (args.map (·.ev st))=false then
     match bm (snap st) (args.map (·.ev st)) with
     | some ds=>(call f (.mv el sz es::ds)).map fun r=>place t r (st.gE s)
     | none=>none
    else none
   | _=>none
  | .d y=>
   match bm (snap st) (.d y::args.map (·.ev st)) with
   | some ds=>(call f ds).bind fun r=>if ba (args.map (·.ev st))&& !r.plain then none else some (place t r st)
   | none=>none
  | _=>none
 | .ej g args,some t=>
  match snap st (g.ev st),bm (snap st) (args.map (·.ev st)) with
  | some (.func f caps),some ds=>(call f (ds++caps)).bind fun r=>rD t (g.ev st::args.map (·.ev st)) r st
  | _,_=>none
 | .copy x y,dst=>(qO st (x.ev st) (y.ev st)).map fun p=>p.2.uE dst (.d (.int .i64 p.1))
 | .aJ f args,dst=>
  match sm st (args.map (·.ev st)) with
  | some (R,d)=>(call f (pad d)).bind fun r=>qP R (dst.getD 49998) dst r st
  | none=>none
 | op,some t=>(bw st op).map fun v=>st.put t v.strip
 | _,none=>none
def Aw:DV→DV
 | .sl (.own _) sz es=> .sl .ro sz es
 | .sl (.cT _) sz es=> .sl .ro sz (es.map fun e=>e.map cellS)
 | x=>x
def ct:DV→DV
 | .tuple vs=> .tuple (vs.map Aw)
 | .agg vs=> .agg (vs.map Aw)
 | x=>Aw x
def cC (call:FuncId→aw→aH) (op:bN) (st:St) :Option AV:=
 match op with
 | .call f args=>
  match bm (snap st) (args.map (·.ev st)) with
  | some ds=>
   match call f ds with
   | some r=>if ba (args.map (·.ev st))&& !r.plain then none else some (.d (ct r))
   | none=>none
  | none=>none
 | .ej g args=>
  match snap st (g.ev st),bm (snap st) (args.map (·.ev st)) with
  | some (.func f caps),some ds=>
   match call f (ds++caps) with
   | some r=>if ba (g.ev st::args.map (·.ev st))&& !r.plain then none else some (.d (ct r))
   | none=>none
  | _,_=>none
 | .aF _ sz len z parts=>
  if z.length=sz∧z.all DV.one then
   match dq st sz (List.replicate len (z.map .d)) parts with
   | some rows=>match g5 rows with | some ds=>some (.d (.sl .tight sz (cond (z.any DV.isNil) (ds.map fun e=>e.map cellS) ds))) | none=>none
   | none=>none
  else none
 | .b7 _ sz bytes z l c=>
  match l.ev st,c.ev st with
  | .d (.int _ m),.d (.int _ n)=>
   if m=n∧0≤n∧n.toNat * bytes≤room∧n.toNat≤room∧z.length=sz∧z.all DV.one then some (.d (.sl .tight sz (List.replicate n.toNat z))) else none
  | _,_=>none
 | .box _ sz x=>
  match dH (x.ev st).cells with
  | some ds=>if ds.length=sz∧(x.ev st).cells.all AV.one=true then some (.d (.aI ds 0)) else none
  | none=>none
 | op=>bw st op
def wB (st:St) :AV→aH
 | .d x=>some (cellS x)
 | .ah s sz off len=>
  match st.aT s with
  | some (.aC _ bd es)=>if sz=bd∧off+len≤es.length then some (.ag false sz ((es.drop off).take len)) else none
  | _=>none
 | _=>none
def Ax (st:St) :List (List AV)→Option aj
 | []=>some []
 | e::l=>match bm (wB st) e,Ax st l with | some x,some m=>some (x::m) | _,_=>none
def oB (op:bN) (d:Nat) (st:St) :Option St:=
 match op with
 | .aF el sz len z parts=>
  if z.length=sz∧z.all DV.one then
   match dq st sz (List.replicate len (z.map .d)) parts with
   | some rows=>(Ax st rows).map fun ds=>(St.gu (rows.flatMap bo) st).put d (.d (.sl .tight sz ds))
   | none=>none
  else none
 | _=>none
def uX (call:FuncId→aw→aH) (op:bN) (d:Nat) (st:St) :Option St:=
 match cC call op st with
 | some v=>some (st.put d v.strip)
 | none=>oB op d st
def iw (call:FuncId→aw→aH) (i:aN) (st:St) :Option St:=
 match i.g with
 | none=>if i.uu then aK call i.dst i.op st else (match i.dst with | some d=>uX call i.op d st | none=>none)
 | some (t,want)=>
  if i.uu then
   match st.iv t want i.up,i.dst with
   | some h,some d=>
    (match cC call i.op h with
     | some v=>some (st.put d (.w t want v))
     | none=>if st.dead t want i.up then some (st.put d (.w t want .undef)) else none)
   | _,_=>none
  else
   match st.branch t want i.up with
   | some (true,dD)=>aK call i.dst i.op dD
   | some (false,dD)=>some (dD.uE i.dst (.w t want .undef))
   | none=>none
def ko (call:FuncId→aw→aH) :List aN→St→Option St
 | [],st=>some st
 | i::l,st=>(iw call i st).bind (ko call l)
def AX.rd:AX→List Nat
 | .t n=>[n]
 | _=>[]
def MG:Option AX→List Nat
 | some x=>x.rd
 | none=>[]
def bN.reads:bN→List Nat
 | .mv x=>x.rd
 | .pick c a b=>c.rd++(a.rd++b.rd)
 | .box _ _ x=>x.rd
 | .alloc _ _ _=>[]
 | .build _ parts=>parts.flatMap fun p=>p.2.2.rd
 | .aF _ _ _ _ parts=>parts.flatMap fun p=>p.2.rd
 | .load _ _ x _=>x.rd
 | .store _ a x=>a.rd++x.rd
 | .bin _ x y=>x.rd++y.rd
 | .IJ _ x y=>x.rd++y.rd
 | .eqs _ _ x y=>x.rd++y.rd
 | .lh _ x y=>x.rd++y.rd
 | .un _ x=>x.rd
 | .conv _ x=>x.rd
 | .aD _ x=>x.rd
 | .bc _ x i _=>x.rd++i.rd
 | .slice _ x lo hi m=>x.rd++(MG lo++(MG hi++MG m))
 | .ext x _=>x.rd
 | .len x=>x.rd
 | .mx xs=>xs.flatMap AX.rd
 | .mn xs=>xs.flatMap AX.rd
 | .append _ _ _ x y=>x.rd++y.rd
 | .b7 _ _ _ _ l c=>l.rd++c.rd
 | .kd _ caps=>caps.flatMap AX.rd
 | .jq _ x=>x.rd
 | .eH _ x=>x.rd
 | .du _ _ x i=>x.rd++i.rd
 | .mU _ x lo hi=>x.rd++(MG lo++MG hi)
 | .copy x y=>x.rd++y.rd
 | .aJ _ args=>args.flatMap AX.rd
 | .call _ args=>args.flatMap AX.rd
 | .eO _ x args=>x.rd++args.flatMap AX.rd
 | .ej f args=>f.rd++args.flatMap AX.rd
def aN.reads (i:aN) :List Nat:=(match i.g with | some (t,_)=>[t] | none=>[])++(i.up.map (·.1)++i.op.reads)
inductive Cls where
 | p
 | r
 | s
 | x
def bN.cls:bN→Cls
 | .mv _ | .pick _ _ _ | .build _ _ | .aF _ _ _ _ _ | .bin _ _ _ | .IJ _ _ _ | .eqs _ _ _ _ | .lh _ _ _ | .un _ _ | .conv _ _ | .aD _ _ | .bc _ _ _ _ | .slice _ _ _ _ _ | .ext _ _ | .len _ | .mx _ | .mn _ | .kd _ _ | .jq _ _ | .eH _ _ | .du _ _ _ _ | .mU _ _ _ _ | .b7 _ _ _ _ _ _=> .p
 | .load _ _ _ _ | .call _ _ | .ej _ _=> .r
 | .store _ _ _=> .s
 | .box _ _ _ | .alloc _ _ _ | .append _ _ _ _ _ | .eO _ _ _ | .copy _ _ | .aJ _ _=> .x
def gN (x y:aN) :Bool:=
 (match x.dst with | some d=> !y.reads.contains d&&y.dst !=some d | none=>true)&&(match y.dst with | some d=> !x.reads.contains d | none=>true)
def aN.e (i:aN) :Bool:=i.g.isNone&& !i.uu
def aN.cls (i:aN) :Cls:=cond i.e .x i.op.cls
def aN.f (i:aN) :Bool:=i.e&& !i.up.isEmpty
def bN.isM:bN→Bool
 | .eO _ _ _=>true
 | _=>false
def bN.free:bN→Bool
 | .box _ _ _ | .alloc _ _ _ | .append _ _ _ _ _ | .b7 _ _ _ _ _ _=>true
 | _=>false
def bN.wC:bN→Bool
 | .copy _ _=>true
 | .aJ _ _=>true
 | _=>false
def bN.makes:bN→Bool
 | .box _ _ _ | .alloc _ _ _ | .append _ _ _ _ _ | .b7 _ _ _ _ _ _ | .aF _ _ _ _ _ | .call _ _ | .eO _ _ _=>true
 | _=>false
def bN.Rd:bN→Bool
 | .b7 _ _ _ _ _ _=>true
 | .aF _ _ _ _ _=>true
 | _=>false
def bN.Re:bN→Bool
 | .call f _=>([83,93,144,146,195,145] :List Nat).any (Nat.beq f)
 | _=>false
def bN.isApp:bN→Bool
 | .append _ _ _ _ _=>true
 | _=>false
def bN.Ay:bN→Bool
 | .load _ _ _ _=>true
 | .call _ _=>true
 | .ej _ _=>true
 | _=>false
def Cb (x y:aN) :Bool:=x.f&&(y.f&&(x.op.free&&(y.op.free&&(!x.op.isApp&& !y.op.isApp))))
def uY (x y:aN) :Bool:=x.f&&x.op.free&&(match y.cls with | .p=>true | .r=>y.op.Ay&& !x.op.isApp | _=>false)
def FM (x y:aN) :Bool:=
 gN x y&&((match x.cls,y.cls with
  | .p,.p | .p,.r | .r,.p | .r,.r | .p,.s | .s,.p=>true
  | _,_=>false)||(uY x y||uY y x||Cb x y))
def MH (x y:aN) :Option (Nat×Nat):=
 match x.g,x.op,y.g,y.op with
 | none,.load _ _ (.t n) _,none,.store _ (.t m) _=>if gN x y&&(x.uu&&y.uu) then some (n,m) else none
 | _,_,_,_=>none
def IN (x y:aN) :Option (Nat×Nat):=
 match x.g,x.op,y.g,y.op with
 | none,.load _ _ (.t n) _,none,.append _ _ _ (.t m) _=>if gN x y&&(x.uu&&y.f) then some (n,m) else none
 | _,_,_,_=>none
def bN.simple:bN→Bool
 | .mv _ | .bc _ _ _ _ | .load _ _ _ _ | .aD _ _ | .slice _ _ _ _ _ | .len _ | .bin _ _ _ | .conv _ _ | .ext _ _ | .aF _ _ _ _ _=>true
 | _=>false
def MI (x y:aN) :Bool:=x.e&&((x.op.makes||x.op.free)&&(y.g.isNone&&(!y.e&&(y.op.simple&&gN x y))))
def MJ (x y:aN) :Bool:=y.e&&((y.op.makes||y.op.free)&&(x.g.isNone&&(!x.e&&(x.op.simple&&gN x y))))
def fG (call:FuncId→aw→aH) (i:aN) (st:St) :Option AV:=
 match i.g with
 | none=>(cC call i.op st).map AV.strip
 | some (t,want)=>
  match st.iv t want i.up with
  | some h=>
   if i.uu then
    (match cC call i.op h with
     | some v=>some (.w t want v)
     | none=>if st.dead t want i.up then some (.w t want .undef) else none)
   else if st.dead t want i.up then some (.w t want .undef)
   else (cC call i.op h).map (.w t want)
  | none=>none
def fU (call:FuncId→aw→aH) (i:aN) (st:St) :Option St:=
 match i.dst with
 | some d=>(fG call i st).map (st.put d)
 | none=>none
def cJ (call:FuncId→aw→aH) (dst:Option Nat) (op:bN) (st:St) :Option St:=
 match op,dst with
 | .call f args,some t=>
  match bm (snap st) (args.map (·.ev st)) with
  | some ds=>(call f ds).bind fun r=>if ba (args.map (·.ev st))&& !r.dz then none else some (place t r st)
  | none=>none
 | .ej _ _,_=>none
 | op,dst=>aK call dst op st
def bD (call:FuncId→aw→aH) (i:aN) (st:St) :Option St:=
 if i.e then cJ call i.dst i.op st else
 match i.op with
 | .store sz a x=>(match i.g,i.dst with
  | none,none=>fE st sz (a.ev st) (x.ev st)
  | _,_=>none)
 | _=>fU call i st
def mV (call:FuncId→aw→aH) :List aN→St→Option St
 | [],st=>some st
 | i::l,st=>(bD call i st).bind (mV call l)
def iN (st:St) (p:Nat×Nat) :Bool:=
 if p.1=p.2 then (match st.env p.1 with | .d _=>true | _=>false) else
 match st.env p.1,st.env p.2 with
 | .d _,.ptr _ _ _ _=>true
 | .ptr s _ _ _,.ptr s' _ _ _=>s !=s'
 | .ptr s _ _ _,.ah s' _ _ _=>s !=s'
 | .ptr _ _ _ _,.d _=>true
 | .d _,.ah _ _ _ _=>true
 | .d _,.d _=>true
 | _,_=>false
inductive Ex where
 | bC
 | ex (id:Nat)
 | ret
def iter (f:St→Option (Ex×St)) :Nat→St→Option (Ex×St)
 | 0,_=>none
 | n+1,st=>
  match f st with
  | some (.bC,st')=>iter f n st'
  | r=>r
abbrev uw:=Nat→(St→Option (Ex×St))→Nat→St→Option (Ex×St)
def uw.ok (run:uw) :Prop:= ∀key f L st r,run key f L st=some r→ ∃n,iter f n st=some r
def uw.plain:uw:=fun _ f L st=>iter f L st
theorem uw.jM:uw.plain.ok:=fun _ f L st r h=>⟨L,h⟩
def kp (h:Hint) (f:St→Option (Ex×St)) (st:St) :Option (Ex×St):=
 match f st with
 | some (.bC,st')=>some (.bC,(St.rC h.fr st').dU h)
 | r=>r
def kq:List aN→List Nat
 | []=>[]
 | i::l=>cond i.f (match i.dst with | some d=>d::kq l | none=>kq l) (kq l)
def exec (call:FuncId→aw→aH) (run:uw) (L:Nat) :AC→St→Option (Ex×St)
 | .skip,st=>some (.bC,st)
 | .ae ops,st=>(ko call ops st).map (Prod.mk .bC)
 | .bG ops dyn,st=>
  match mV call ops (St.k5 (kq ops) st) with
  | some st'=>if dyn.all (iN st') then some (.bC,st') else none
  | none=>none
 | .seq a b,st=>
  match exec call run L a st with
  | some (.bC,st')=>exec call run L b st'
  | r=>r
 | .cond c a b,st=>
  match c.ev st with
  | .d (.bool t)=>if t then exec call run L a st else exec call run L b st
  | _=>none
 | .block id b,st=>
  match exec call run L b st with
  | some (.ex Lj,st')=>if Lj=id then some (.bC,st') else some (.ex Lj,st')
  | r=>r
 | .loop none b,st=>iter (exec call run L b) L st
 | .loop (some h) b,st=>run h.key (kp h (exec call run L b)) L ((St.rC h.fr st).dU h)
 | .exit h id,st=>some (.ex id,st.si h)
 | .ret h,st=>some (.ret,st.si h)
 | .bad,_=>none
inductive RV where
 | t (n:Nat)
 | c (n:Nat) (agg:Bool) (sz:Nat)
structure bb where
 body:AC
 ntmps:Nat
 res:List RV
def RV.get (st:St) :RV→Option AV
 | .t n=>some (st.env n).strip
 | .c n agg sz=>dJ st agg sz (st.env n)
def St.sn (st:St) (s:Nat) :Bool:=match st.aT s with | some (.aC _ _ _)=>true | _=>false
def St.pO (st:St) (T:List Nat) (s:Nat) :Bool:=
 match st.aT s with
 | some (.aC _ _ _)=>true
 | some (.mix _ _ es)=>es.all fun e=>e.all fun c=>c.sites.all fun s'=>st.sn s'&& !T.contains s'
 | none=>false
def iO (st:St) :AV→aH
 | .ah s sz off len=>
  match st.aT s with
  | some (.aC el bd es)=>if bd=sz∧off=0∧len=es.length then some (.sl (.own el) sz es) else none
  | _=>none
 | _=>none
def kr (st:St) :List (List AV)→Option aj
 | []=>some []
 | e::es=>match bm (iO st) e,kr st es with | some a,some b=>some (a::b) | _,_=>none
def dL (st:St) (v:AV) :aH:=
 match v with
 | .ah s sz off len=>
  match st.aT s with
  | some (.aC el bd es)=>if bd=sz∧off=0∧len=es.length then some (.sl (.own el) sz es) else (snap st v).map ct
  | some (.mix el bd es)=>
   if bd=sz∧off=0∧len=es.length then
    match kr st es with
    | some rows=>some (.sl (.cT el) sz rows)
    | none=>(snap st v).map ct
   else (snap st v).map ct
  | none=>(snap st v).map ct
 | v=>(snap st v).map ct
def nw (st:St) (v:AV) :aH:=
 if nodup (v.sites++v.sites.flatMap st.inner)&&v.sites.all (st.pO v.sites) then
  match v with
  | .tuple vs=>(bm (dL st) vs).map .tuple
  | .agg vs=>(bm (dL st) vs).map .agg
  | v=>dL st v
 else (snap st v).map ct
def jN (st:St) (res:List RV) :aH:=
 match bm (RV.get st) res with
 | some [v]=>nw st v
 | some vs=>nw st (.tuple vs)
 | none=>none
def sr (st:St) (k:Nat) (res:List RV) :aH:=
 match bm (RV.get st) res with
 | some [v]=>Av st k v
 | some vs=>Av st k (.tuple vs)
 | none=>none
def fQ (ds:aw) :Option (aw×aw):=
 match ds.drop 12 with
 | [.gi vs os]=>some (vs,os)
 | _=>none
def ss (t:Nat) :DV→AV
 | .mv el sz es=> .ah t sz 0 es.length
 | x=> .d x
def yf:DV→Option Ob
 | .mv el sz es=>some (.aC el sz es)
 | _=>none
def St.init (ds:aw) :St:={env:=fun t=>match ds[t]? with | some x=>ss t x | none=> .undef,aT:=fun t=>match ds[t]? with | some x=>yf x | none=>none}
def qQ:Value→aH
 | .int k n=>some (.int k n)
 | .bool b=>some (.bool b)
 | .slice none 0 0=>some .af
 | .pointer none=>some .bn
 | .nilFunc=>some .fN
 | _=>none
def MK:Value→aH
 | .agg cs=>(bm qQ cs.toList).map .agg
 | v=>qQ v
def js:Operand→Option AX
 | .tmp t=>some (.t t)
 | .const v=>(MK v).map .k
 | .func f=>some (.fn f)
 | .global _=>none
def fC (P:Program) (t:TypeId) :Option aw:=
 match P.info? t with
 | some i=>match i.zero with | some v=>bm qQ v.cells.toList | none=>none
 | none=>none
def lp (P:Program) (t:TypeId) :Option Bool:=
 match P.underlying t with
 | some (.struct _)=>some true
 | some (.array _ _)=>some true
 | some _=>some false
 | none=>none
def cG (P:Program) (t:TypeId) :Option Nat:=(P.info? t).map (·.size)
def lu (P:Program) (t:TypeId) :Option Nat:=(P.info? t).map (·.bytes)
def IP (P:Program) (t:TypeId) :Option (Nat×TypeId):=match P.underlying t with | some (.array n e)=>some (n,e) | _=>none
def oC (P:Program) (t:TypeId) :Option TypeId:=match P.underlying t with | some (.slice e)=>some e | _=>none
def ku (P:Program) :Nat→List Field→Bool
 | _,[]=>true
 | n,f::fs=>f.offset==n&&f.name != "_" &&(match P.underlying f.type with | some (.int _)=>true | _=>false)&&ku P (n+1) fs
def yg (P:Program) (t:TypeId) :Option Nat:=
 match P.underlying t with
 | some (.struct fs)=>if ku P 0 fs.toList&& !P.stoodInHeld t&& !P.eqGuardType P.depth t then some fs.size else none
 | _=>none
def rE (x:Option Operand) :Option (Option AX):=match x with | none=>some none | some o=>(js o).map some
def uZ (P:Program) (fs:Array Field) (p:Nat×Operand) :Option (Nat×Nat×AX):=
 match fs[p.1]?,js p.2 with
 | some f,some x=>(cG P f.type).map fun n=>(f.offset,n,x)
 | _,_=>none
def lz (p:Nat×Operand) :Option (Nat×AX):=(js p.2).map fun x=>(p.1,x)
def Rf (ops:List Oper) (t:Nat) :Bool:=
 Nat.beq t 0||ops.any fun o=>o.dst==some t&&(match o.op with | .move (.tmp 0)=>true | _=>false)
def Rg (ops:List Oper) :Bool:=
 ops.any fun o=>match o.op with
  | .store _ (.tmp a) _=>ops.any fun q=>q.dst==some a&&(match q.op with | .indexAddr _ (.tmp x) _=>Rf ops x | _=>false)
  | _=>false
def nx:Code→Bool
 | .region _ ops _=>Rg ops.toList
 | .seq a b=>nx a||nx b
 | .cond _ a b=>nx a||nx b
 | .block _ b=>nx b
 | .loop b=>nx b
 | _=>false
def ny:Code→Bool
 | .region _ ops _=>ops.toList.any fun o=>o.dst==some 0
 | .seq a b=>ny a||ny b
 | .cond _ a b=>ny a||ny b
 | .block _ b=>ny b
 | .loop b=>ny b
 | _=>false
def hFn (P:Program) (f:FuncId) :Bool:=([54,55,56,60,61,75,76,102,107,109,128,129,130,131,132,133,165,168,169,170,176,210,211,212,239] :List Nat).any (Nat.beq f)
def ML (s:String) :Bool:=
 s== "slices.Insert[[]int64,int64]" ||s== "slices.Insert[[]giro/api.Pay,giro/api.Pay]" ||s== "slices.Delete[[]giro/api.Pay,giro/api.Pay]"
def abt (P:Program) (f:FuncId) :Bool:=
 match P.funcs[f]? with
 | some fn=>ML fn.name||(match fn.params[0]? with
  | some t=>(match P.underlying t with
   | some (.slice _)=>(match fn.body with | some c=>nx c&& !ny c | none=>false)
   | _=>false)
  | none=>false)
 | none=>false
def lA (P:Program) (c:Call) (type:TypeId) :Option bN:=
 match c.callee with
 | .builtin .len=>
  match c.args.toList,c.argTypes.toList with
  | [x],[t]=>match oC P t,js x with | some _,some x=>some (.len x) | _,_=>none
  | _,_=>none
 | .builtin .max=>(bm js c.args.toList).map .mx
 | .builtin .min=>(bm js c.args.toList).map .mn
 | .builtin .copy=>
  match c.args.toList,c.argTypes.toList with
  | [x,y],[t,_]=>
   match oC P t,js x,js y with
   | some e,some x,some y=>if cG P e=some 1 then some (.copy x y) else none
   | _,_,_=>none
  | _,_=>none
 | .builtin .append=>
  match c.args.toList,c.argTypes.toList with
  | [x,y],[t,u]=>
   if t=u then
    match oC P t,js x,js y with
    | some e,some x,some y=>
     match cG P e,lu P e,fC P e with
     | some sz,some by_,some z=>if 0 < sz∧z.length=sz then some (.append e sz by_ x y) else none
     | _,_,_=>none
    | _,_,_=>none
   else none
  | _,_=>none
 | .value f=>
  match f,js f,bm js c.args.toList with
  | .func g,_,some args=>if hFn P g then some (.aJ g args) else (match abt P g,args with | true,x::l=>some (.eO g x l) | _,args=>some (.call g args))
  | _,some f,some args=>some (.ej f args)
  | _,_,_=>none
 | _=>none
def ux (P:Program) (type:TypeId) :Op→Option bN
 | .move x=>(js x).map .mv
 | .assign x=>(js x).map .mv
 | .pick c a b=>match js c,js a,js b with | some c,some a,some b=>some (.pick c a b) | _,_,_=>none
 | .box el x=>match js x,cG P el with | some x,some sz=>some (.box el sz x) | _,_=>none
 | .alloc el=>match fC P el,cG P el with | some z,some sz=>if z.length=sz then some (.alloc el sz z) else none | _,_=>none
 | .build t parts=>
  match P.underlying t,fC P t with
  | some (.struct fs),some z=>if fs.toList.all (fun f=>(cG P f.type).isSome) then (bm (uZ P fs) parts.toList).map (.build z) else none
  | _,_=>none
 | .buildSlice t len parts=>
  match oC P t with
  | some e=>
   match cG P e,fC P e,bm lz parts.toList with
   | some sz,some z,some ps=>if 0 < sz∧z.length=sz∧len * sz≤16777216 then some (.aF e sz len z ps) else none
   | _,_,_=>none
  | none=>none
 | .load t a=>match lp P t,cG P t,js a with | some g,some sz,some a=>some (.load g sz a ((fC P t).getD [])) | _,_,_=>none
 | .store t a x=>match cG P t,js a,js x with | some sz,some a,some x=>some (.store sz a x) | _,_,_=>none
 | .binOp op t x y _=>
  match js x,js y with
  | some x,some y=>
   match op with
   | .shl=>some (.lh op x y)
   | .shr=>some (.lh op x y)
   | .eql=>match yg P t with | some n=>some (.eqs false n x y) | none=>match P.underlying t with | some .bool=>some (.IJ false x y) | some (.int _)=>some (.bin op x y) | some (.slice _)=>(match y with | .k .af=>some (.jq false x) | _=>none) | some (.pointer _)=>(match y with | .k .bn=>some (.eH false x) | _=>none) | _=>none
   | .neq=>match yg P t with | some n=>some (.eqs true n x y) | none=>match P.underlying t with | some .bool=>some (.IJ true x y) | some (.int _)=>some (.bin op x y) | some (.slice _)=>(match y with | .k .af=>some (.jq true x) | _=>none) | some (.pointer _)=>(match y with | .k .bn=>some (.eH true x) | _=>none) | _=>none
   | _=>some (.bin op x y)
  | _,_=>none
 | .unOp op _ x=>(js x).map (.un op)
 | .nilCheck x=>(js x).map (.aD 0)
 | .convert src dst x=>
  match P.underlying src,P.underlying dst,js x with
  | some _,some (.int k),some x=>some (.conv k x)
  | _,_,_=>none
 | .fieldAddr s x f=>
  match P.underlying s,js x with
  | some (.struct fs),some x=>
   match fs[f]? with
   | some fd=>match cG P fd.type with | some n=>if n=0 then none else some (.aD fd.offset x) | none=>none
   | none=>none
  | _,_=>none
 | .indexAddr t x i=>
  match IP P t,js x,js i with
  | some (n,e),some x,some i=>(match cG P e with | some sz=>if 0 < sz then some (.du sz n x i) else none | none=>none)
  | _,_,_=>
  match oC P t,js x,js i with
  | some e,some x,some i=>match cG P e with | some sz=>if 0 < sz then some (.bc sz x i ((fC P e).getD [])) else none | none=>none
  | _,_,_=>none
 | .slice t x lo hi mx=>
  match IP P t,js x,rE lo,rE hi,mx with
  | some (n,e),some x,some lo,some hi,none=>if cG P e=some 1 then some (.mU n x lo hi) else none
  | _,_,_,_,_=>
  match oC P t,js x,rE lo,rE hi,rE mx with
  | some e,some x,some lo,some hi,some mx=>match cG P e with | some sz=>if 0 < sz then some (.slice sz x lo hi mx) else none | none=>none
  | _,_,_,_,_=>none
 | .extract x i=>(js x).map fun x=> .ext x i
 | .makeFunc (.func f) first caps=>if first.isEmpty then (bm js caps.toList).map (.kd f) else none
 | .makeSlice t l c=>
  match oC P t,js l,js c with
  | some e,some l,some c=>
   match cG P e,lu P e,fC P e with
   | some sz,some by_,some z=>if 0 < sz∧z.length=sz then some (.b7 e sz by_ z l c) else none
   | _,_,_=>none
  | _,_,_=>none
 | .call c=>lA P c type
 | _=>none
def Cc (N:Nat) :Option Nat→Bool
 | some d=>decide (d < N)
 | none=>true
def wD (g:Oper→Bool) :Code→Bool
 | .skip=>true
 | .region _ ops false=>ops.toList.all g
 | .seq a b=>wD g a&&wD g b
 | .ret=>true
 | _=>false
def Lk (P:Program) :Nat→Op→Bool
 | _,.move _=>true
 | _,.assign _=>true
 | _,.pick _ _ _=>true
 | _,.box _ _=>true
 | _,.alloc _=>true
 | _,.build _ _=>true
 | _,.buildSlice _ _ _=>true
 | _,.load _ _=>true
 | _,.store _ _ _=>true
 | _,.binOp op _ _ _ _=>(match op with | .quo | .rem | .shl | .shr=>false | _=>true)
 | _,.unOp _ _ _=>true
 | _,.nilCheck _=>true
 | _,.convert _ _ _=>true
 | _,.fieldAddr _ _ _=>true
 | _,.extract _ _=>true
 | _,.makeFunc _ _ _=>true
 | 0,.call c=>(match c.callee with | .builtin .len=>true | .builtin .max=>true | .builtin .min=>true | _=>false)
 | n+1,.call c=>
  (match c.callee with
   | .builtin .len=>true
   | .builtin .max=>true
   | .builtin .min=>true
   | .value (.func f)=>
    (match P.funcs[f]? with
    | some fn=>(match fn.body with | some c=>wD (fun o=>Lk P n o.op) c | none=>false)
    | none=>false)
   | _=>false)
 | _,_=>false
def Ll (ops:Array Oper) :Nat→Nat→Bool
 | 0,_=>false
 | n+1,t=>
  match ops.toList.find? (fun o=>o.dst==some t) with
  | some o=>(match o.op with
   | .indexAddr _ _ _=>true
   | .fieldAddr _ (.tmp b) _=>Ll ops n b
   | _=>false)
  | none=>false
def IQ (ops:Array Oper) :Op→Bool
 | .load _ (.tmp a)=>Ll ops 4 a
 | _=>false
def Rh (ops:Array Oper) :Nat→Nat→List (Nat×Bool)
 | 0,_=>[]
 | n+1,j=>
  match ops[j]? with
  | some o=>(match o.guard with | some (k,want)=>(match (ops[k]?).bind (·.dst) with | some t=>(t,want)::Rh ops n k | none=>[]) | none=>[])
  | none=>[]
def Ce (t:Nat) :bN→Bool
 | .call _ _=>true
 | .ej f _=> !f.rd.contains t
 | .eO _ x _=> !x.rd.contains t
 | .append _ _ _ x _=> !x.rd.contains t
 | q=> !q.reads.contains t
def wE (t:Nat) :bN→Bool
 | .aF _ _ _ _ ps=>ps.any fun p=>p.2.rd.contains t
 | _=>false
def MM (P:Program) (R:List Nat) (N:Nat) (ops:Array Oper) (o:Oper) (op:bN) :Bool:=
 match op,o.dst with
 | .box _ _ _,some t=>R.contains t
 | .b7 _ _ _ _ _ _,some t=>(ops.toList.any fun p=>match ux P p.type p.op with | some q=>wE t q | none=>false)&&ops.toList.all fun p=>match ux P p.type p.op with | some q=>wE t q||Ce t q | none=>false
 | .aF el _ _ _ _,some t=>ops.toList.all fun p=>match ux P p.type p.op with | some q=>(wE t q&& !([(2,91)] :List (Nat×Nat)).any fun p=>Nat.beq p.1 el&&Nat.beq p.2 N)||Ce t q | none=>false
 | _,_=>false
def ix (P:Program) (R:List Nat) (N:Nat) (ops:Array Oper) (o:Oper) :Option aN:=
 match ux P o.type o.op with
 | none=>none
 | some op=>
  if Cc N o.dst then
   match o.guard with
   | none=>some ⟨o.dst,none,[],!MM P R N ops o op,op⟩
   | some (j,want)=>match (ops[j]?).bind (·.dst) with | some t=>if o.dst=some t then none else some ⟨o.dst,some (t,want),Rh ops 8 j,Lk P 4 o.op&&(!IQ ops o.op&& !op.wC),op⟩ | none=>none
  else none
def gx (o:Oper) :List Nat:=(o.after.toList.filter (Region.binds .any)).map (·.on)
def kv (l:List aN) (n lim:Nat) (pre:List Nat) :Bool:=
 (List.range l.length).all fun k=>match l[k]? with | some i=>i.dst !=some n||k < lim||pre.contains k | none=>true
def qR (l:List aN) (j i:Nat) (pre:List Nat) :Option (List (Nat×Nat)):=
 match l[j]?,l[i]? with
 | some x,some y=>match MH x y with
  | some (n,m)=>if kv l n j []&&kv l m 0 pre then some [(n,m)] else none
  | none=>
   match IN x y with
   | some (n,m)=>if kv l n j []&&kv l m 0 pre then some [(n,m)] else none
   | none=>
   if MJ x y&&x.op.reads.all (fun n=>kv l n j []) then some (x.op.reads.map fun n=>(n,n))
   else if MI x y&&y.op.reads.all (fun n=>kv l n 0 pre) then some (y.op.reads.map fun n=>(n,n))
   else none
 | _,_=>none
def nz (l:List aN) (j i:Nat) :Bool:=match l[j]?,l[i]? with | some x,some y=>FM x y | _,_=>false
def pP (acc:List Nat) :List Nat→Nat→Nat
 | [],m=>m
 | k::p,m=>pP acc p (m ||| 1 <<< k ||| acc.getD k 0)
def FN:List (List Nat)→List Nat→List Nat
 | [],acc=>acc
 | p::l,acc=>FN l (acc++[pP acc p 0])
def ordered (c:List Nat) (n i:Nat) :Bool:=(List.range n).all fun j=>Nat.beq j i||(c.getD i 0).testBit j||(c.getD j 0).testBit i
def aN.rR (x:aN) :aN:=cond x.g.isNone {x with uu:=true,up:=[]} x
def Cf (x y:aN) :Bool:=
 match x.op,y.op with
 | .call _ _,.eO _ (.t m) _=>(match x.dst with | some d=>Nat.beq d m | none=>false)
 | _,_=>false
def oD (M:List aN) (c:List Nat) (n:Nat) :Nat→List aN→List aN
 | _,[]=>[]
 | i,x::l=>cond (x.g.isNone&&(!x.uu&&x.op.Rd)) x.rR (cond (x.g.isNone&&((x.op.makes&&(ordered c n i||(x.op.Re||(x.op.isM||M.any (Cf x)))))||x.op.wC)) {x with uu:=false} (cond (x.g.isNone&&x.op.free) {x with uu:=false,up:=[(0,false)]} x.rR))::oD M c n (i+1) l
def Lm (l:List aN) :Bool:=
 (l.all (fun x=> !x.op.wC)||l.all (fun x=> !x.f))&&(List.range l.length).all fun i=>match l[i]? with
  | some x=> !x.f||(x.op.free&&(match x.dst with | some d=>decide (d < 49999)&&((List.range l.length).all fun j=>Nat.beq j i||(match l[j]? with | some y=>y.dst !=some d | none=>true)) | none=>false))
  | none=>true
def MN (l:List aN) (pre:List (List Nat)) (c:List Nat) :List (Nat×Nat):=
 (List.range l.length).flatMap fun i=>(List.range i).flatMap fun j=>if (pre.getD i []).contains j||nz l j i||(c.getD i 0).testBit j then [] else (qR l j i (pre.getD i [])).getD []
def Cg (l:List aN) (pre:List (List Nat)) (c:List Nat) (dyn:List (Nat×Nat)) :Bool:=
 (List.range l.length).all fun i=>(pre.getD i []).all (fun k=>decide (k < i))&&
  (List.range i).all fun j=>(pre.getD i []).contains j||nz l j i||(c.getD i 0).testBit j||(match qR l j i (pre.getD i []) with | some ps=>ps.all dyn.contains | none=>false)
def bY (P:Program) (R:List Nat) (N:Nat) :Code→Option AC
 | .skip=>some .skip
 | .region _ ops false=>match bm (ix P R N ops) ops.toList with | some l=>some (.ae l) | none=>some .bad
 | .region _ ops true=>
  match bm (ix P R N ops) ops.toList with
  | some l0=>
   let pre:=ops.toList.map gx
   let c:=FN pre []
   let l:=oD l0 c l0.length 0 l0
   let dyn:=MN l pre c
   if P.follows .mixedOrders&&(Cg l pre c dyn&&Lm l) then some (.bG l dyn) else some .bad
  | none=>some .bad
 | .seq a b=>match bY P R N a,bY P R N b with | some a,some b=>some (.seq a b) | _,_=>none
 | .cond c a b=>match js c,bY P R N a,bY P R N b with | some c,some a,some b=>some (.cond c a b) | _,_,_=>some .bad
 | .block id b=>(bY P R N b).map (.block id)
 | .loop b=>(bY P R N b).map (.loop none)
 | .exit id=>some (.exit none id)
 | .ret=>some (.ret none)
 | _=>some .bad
def oE (P:Program) :ResultVar→Option RV
 | .tmp t=>some (.t t)
 | .cell a t=>match lp P t,cG P t with | some g,some sz=>some (.c a g sz) | _,_=>none
def AC.ins:AC→List aN
 | .ae l=>l
 | .bG l _=>l
 | .seq a b=>a.ins++b.ins
 | .cond _ a b=>a.ins++b.ins
 | .block _ b=>b.ins
 | .loop _ b=>b.ins
 | _=>[]
def IS (t:Nat) (i:aN) :Option Nat:=
 match i.op with
 | .aD _ (.t n)=>if n=t then i.dst else none
 | _=>none
def Ri (t:Nat) (T:List Nat) (i:aN) :Bool:=
 match i.op with
 | .load _ _ (.t _) _=>true
 | .aD _ (.t n)=>Nat.beq n t|| !T.contains n
 | op=> !(op.reads.any fun n=>T.contains n)
def Rj (l:List aN) (t:Nat) :Bool:=l.all (Ri t (t::l.filterMap (IS t)))
def IT (l:List aN) :List Nat:=l.filterMap fun i=>
 match i.op,i.dst with
 | .box _ _ _,some t=>if Rj l t then some t else none
 | _,_=>none
def D3 (P:Program) (fn:Func) :Option bb:=
 match fn.body with
 | none=>none
 | some c=>
  if fn.name== "runtime.NumGoroutine" then none else
  if 49997 < fn.ntmps then none else
  match bY P [] fn.ntmps c with
  | none=>none
  | some b0=>
  match bY P (IT b0.ins) fn.ntmps c,bm (oE P) fn.results.toList with
  | some b,some rs=>some ⟨b,fn.ntmps,rs⟩
  | _,_=>none
def AC.erase:AC→AC
 | .skip=> .skip
 | .ae ops=> .ae ops
 | .bG ops dyn=> .bG ops dyn
 | .seq a b=> .seq a.erase b.erase
 | .cond c a b=> .cond c a.erase b.erase
 | .block id b=> .block id b.erase
 | .loop _ b=> .loop none b.erase
 | .exit _ id=> .exit none id
 | .ret _=> .ret none
 | .bad=> .bad
def bb.erase (fn:bb) :bb:={fn with body:=fn.body.erase}
def aA {α:Type} (o:Option α) (k:α→aH) :aH:=
 match o with
 | some x=>k x
 | none=>none
theorem bT {α:Type} (o:Option α) (k:α→aH) :aA o k=o.bind k:=by cases o<;>rfl
@[simp] theorem dW {α:Type} (x:α) (k:α→aH) :aA (some x) k=k x:=rfl
@[simp] theorem MO {α:Type} (k:α→aH) :aA none k=none:=rfl
def uG (v:AV) (k:AV→aH) :aH:=
 match v with
 | .d x=>k (.d x)
 | .ah s sz off len=>k (.ah s sz off len)
 | .ptr s sz i off=>k (.ptr s sz i off)
 | .mA s sz i off n=>k (.mA s sz i off n)
 | .func f c=>k (.func f c)
 | .agg c=>k (.agg c)
 | .tuple c=>k (.tuple c)
 | .w t want v=>k (.w t want v)
 | .undef=>k .undef
theorem fR (v:AV) (k:AV→aH) :uG v k=k v:=by cases v<;>rfl
def fdK (x:DV) (k:DV→aH) :aH:=
 match x with
 | .int q n=>k (.int q n)
 | .bool b=>k (.bool b)
 | .af=>k .af
 | .sl q sz es=>k (.sl q sz es)
 | .ag q sz es=>k (.ag q sz es)
 | .aI e off=>k (.aI e off)
 | .bn=>k .bn
 | .func f c=>k (.func f c)
 | .fN=>k .fN
 | .agg c=>k (.agg c)
 | .tuple c=>k (.tuple c)
 | .mv el sz es=>k (.mv el sz es)
 | .gi vs os=>k (.gi vs os)
theorem FO (x:DV) (k:DV→aH) :fdK x k=k x:=by cases x<;>rfl
def IU (v:AV) (k:AV→aH) :aH:=
 match v with
 | .d x=>fdK x fun x=>k (.d x)
 | v=>uG v k
theorem Ch (v:AV) (k:AV→aH) :IU v k=k v:=by
 cases v<;>first
  | rfl
  | simp only [IU,FO]
def IV {α:Type} (l:List α) (k:List α→aH) :aH:=
 match l with
 | []=>k []
 | x::l=>IV l fun l=>k (x::l)
theorem lB {α:Type} : ∀(l:List α) (k:List α→aH),IV l k=k l
 | [],_=>rfl
 | x::l,k=>lB l _
def Rk (v:AV) (k:AV→aH) :aH:=
 match v with
 | .d (.agg cs)=>IV cs fun cs=>k (.d (.agg cs))
 | .agg cs=>IV cs fun cs=>k (.agg cs)
 | v=>k v
theorem wF (v:AV) (k:AV→aH) :Rk v k=k v:=by
 cases v with
 | d x=>cases x<;>first | exact lB _ _ | rfl
 | agg cs=>exact lB _ _
 | _=>rfl
def Ci (f:Nat→AV) :List Nat→(List (Nat×AV)→aH)→aH
 | [],k=>k []
 | n::l,k=>uG (f n) fun v=>Ci f l fun vs=>k ((n,v)::vs)
theorem yh (f:Nat→AV) : ∀(l:List Nat) (k:List (Nat×AV)→aH),Ci f l k=k (l.map fun n=>(n,f n))
 | [],_=>rfl
 | n::l,k=>by
  simp only [Ci,fR,yh f l,List.map_cons]
def foK (o:Option Ob) (k:Option Ob→aH) :aH:=
 match o with
 | some (.aC el sz es)=>k (some (.aC el sz es))
 | some (.mix el sz es)=>k (some (.mix el sz es))
 | none=>k none
theorem MP (o:Option Ob) (k:Option Ob→aH) :foK o k=k o:=by
 cases o with
 | none=>rfl
 | some o=>cases o<;>rfl
def IW {α:Type} (l:List (List α)) (k:List (List α)→aH) :aH:=
 match l with
 | []=>k []
 | x::l=>IV x fun x=>IW l fun l=>k (x::l)
theorem Cj {α:Type} : ∀(l:List (List α)) (k:List (List α)→aH),IW l k=k l
 | [],_=>rfl
 | x::l,k=>by simp only [IW,lB,Cj l]
def FP (l:List AV) (k:List AV→aH) :aH:=
 match l with
 | []=>k []
 | x::l=>uG x fun x=>FP l fun l=>k (x::l)
theorem wG: ∀(l:List AV) (k:List AV→aH),FP l k=k l
 | [],_=>rfl
 | x::l,k=>by simp only [FP,fR,wG l]
def yi (l:List (List AV)) (k:List (List AV)→aH) :aH:=
 match l with
 | []=>k []
 | x::l=>FP x fun x=>yi l fun l=>k (x::l)
theorem su: ∀(l:List (List AV)) (k:List (List AV)→aH),yi l k=k l
 | [],_=>rfl
 | x::l,k=>by simp only [yi,wG,su l]
def MQ (o:Option Ob) (k:Option Ob→aH) :aH:=
 match o with
 | some (.aC el sz es)=>IW es fun es=>k (some (.aC el sz es))
 | some (.mix el sz es)=>yi es fun es=>k (some (.mix el sz es))
 | none=>k none
theorem Ck (o:Option Ob) (k:Option Ob→aH) :MQ o k=k o:=by
 cases o with
 | none=>rfl
 | some o=>
  cases o
  ·exact Cj _ _
  ·exact su _ _
def yj (g:Option Ob→(Option Ob→aH)→aH) (f:Nat→Option Ob) :List Nat→(List (Nat×Option Ob)→aH)→aH
 | [],k=>k []
 | n::l,k=>g (f n) fun v=>yj g f l fun vs=>k ((n,v)::vs)
theorem sv {g:Option Ob→(Option Ob→aH)→aH} (hg: ∀o k,g o k=k o) (f:Nat→Option Ob) : ∀(l:List Nat) (k:List (Nat×Option Ob)→aH),yj g f l k=k (l.map fun n=>(n,f n))
 | [],_=>rfl
 | n::l,k=>by
  simp only [yj,hg,sv hg f l,List.map_cons]
def MR {α:Type} (a b:List α) (k:List α→aH) :aH:=
 match a with
 | []=>k b
 | x::a=>MR a b fun l=>k (x::l)
theorem Cl {α:Type} (b:List α) : ∀(a:List α) (k:List α→aH),MR a b k=k (a++b)
 | [],_=>rfl
 | x::a,k=>Cl b a _
def yk (st:St) (h:Hint) (k:St→aH) :aH:=
 Ci st.env h.lv fun vs=>yj foK st.aT h.ls fun os=>yj MQ st.aT h.lr fun x5=>MR os x5 fun os=>k (St.of vs os)
theorem sw (st:St) (h:Hint) (k:St→aH) :yk st h k=k (st.dU h):=by
 simp only [yk,yh,sv MP,sv Ck,Cl,St.dU,List.map_append]
def Az (st:St) (h:Option Hint) (k:St→aH) :aH:=
 match h with
 | none=>k st
 | some h=>yk st h k
theorem u1 (st:St) (h:Option Hint) (k:St→aH) :Az st h k=k (st.si h):=by
 cases h with
 | none=>rfl
 | some h=>exact sw _ _ _
def nE (sz:Nat) (x i:AV) (k:AV→aH) :aH:=
 match x,i with
 | .d (.sl _ bd es),.d (.int _ n)=>
  if sz=bd then cond (decide (0≤n)) (aA es[n.toNat]? fun e=>k (.d (.aI e 0))) none else none
 | .d (.ag _ bd es),.d (.int _ n)=>
  cond (decide (sz=bd)) (cond (decide (0≤n)) (aA es[n.toNat]? fun e=>k (.d (.aI e 0))) none) none
 | .ah s bd off len,.d (.int _ n)=>
  if sz=bd then cond (decide (0≤n)) (cond (decide (n < len)) (k (.ptr s sz (off+n.toNat) 0)) none) none else none
 | .mA s bd r off len,.d (.int _ n)=>
  if sz=1 then cond (decide (0≤n)) (cond (decide (n < len)) (k (.ptr s bd r (off+n.toNat))) none) none else none
 | _,_=>none
theorem u4 (sz:Nat) (x i:AV) (k:AV→aH) :nE sz x i k=(ig sz x i).bind k:=by
 cases x with
 | d x=>
  cases x with
  | sl q bd es=>
   cases i with
   | d y=>
    cases y with
    | int q n=>
     simp only [nE,ig]
     by_cases h:sz=bd
     ·by_cases h2:0≤n
      ·simp only [h,h2,decide_true,cond_true,bT,if_true,and_self]
       cases es[n.toNat]? <;>rfl
      ·simp [h,h2]
     ·simp [h]
    | _=>rfl
   | _=>rfl
  | ag q bd es=>
   cases i with
   | d y=>
    cases y with
    | int q n=>
     simp only [nE,ig]
     by_cases h:sz=bd
     ·by_cases h2:0≤n
      ·simp only [h,h2,decide_true,cond_true,bT,if_true,and_self]
       cases es[n.toNat]? <;>rfl
      ·simp [h,h2]
     ·simp [h]
    | _=>rfl
   | _=>rfl
  | _=>rfl
 | ah s bd off len=>
  cases i with
  | d y=>
   cases y with
   | int q n=>
    simp only [nE,ig]
    by_cases h:sz=bd
    ·by_cases h2:0≤n
     ·by_cases h3:n < len
      ·simp [h,h2,h3]
      ·simp [h,h2,h3]
     ·simp [h,h2]
    ·simp [h]
   | _=>rfl
  | _=>rfl
 | mA s bd r off len=>
  cases i with
  | d y=>
   cases y with
   | int q n=>
    simp only [nE,ig]
    by_cases h:sz=1
    ·by_cases h2:0≤n
     ·by_cases h3:n < len
      ·simp [h,h2,h3]
      ·simp [h,h2,h3]
     ·simp [h,h2]
    ·simp [h]
   | _=>rfl
  | _=>rfl
 | _=>rfl
def FQ (rQ m:Nat) (x i:AV) (k:AV→aH) :aH:=
 match x,i with
 | .d (.aI e o),.d (.int _ n)=>cond (decide (0≤n)) (cond (decide (n < m)) (k (.d (.aI e (o+n.toNat * rQ)))) none) none
 | .ptr s sz j o,.d (.int _ n)=>cond (decide (0≤n)) (cond (decide (n < m)) (k (.ptr s sz j (o+n.toNat * rQ))) none) none
 | _,_=>none
theorem yl (rQ m:Nat) (x i:AV) (k:AV→aH) :FQ rQ m x i k=(yc rQ m x i).bind k:=by
 have key: ∀(n:Int) (a:AV),cond (decide (0≤n)) (cond (decide (n < m)) (k a) none) none=(if 0≤n∧n < m then some a else none).bind k:=fun n a=>by
  by_cases h2:0≤n
  ·by_cases h3:n < m
   ·simp [h2,h3]
   ·simp [h2,h3]
  ·simp [h2]
 cases x with
 | d x=>
  cases x with
  | aI e o=>
   cases i with
   | d y=>cases y<;>first | rfl | exact key _ _
   | _=>rfl
  | _=>rfl
 | ptr s sz j o=>
  cases i with
  | d y=>cases y<;>first | rfl | exact key _ _
  | _=>rfl
 | _=>rfl
def IX (z:aw) (v:AV) (k:AV→aH) :aH:=
 match v with
 | .d (.aI e off)=>cond (aq z e) (k (.d (.aI (rowOf z e) off))) none
 | v=>k v
theorem Cm (z:aw) (v:AV) (k:AV→aH) :IX z v k=(FF z v).bind k:=by
 cases v with
 | d x=>
  cases x with
  | aI e off=>
   simp only [IX,FF]
   cases h:aq z e with
   | true=>simp [FE h]
   | false=>simp
  | _=>rfl
 | _=>rfl
def D4 (agg:Bool) (z:aw) (v:AV) (k:AV→aH) :aH:=
 match agg,v with
 | true,.d (.agg cs)=>cond (jF z cs) (k (.d (.agg (FD z cs)))) none
 | false,.d c=>
  (match z with
   | [.int q n]=>cond ((DV.int q n).uv c) (k (.d (.int q c.ak))) none
   | [.bool b]=>cond ((DV.bool b).uv c) (k (.d (.bool c.toB))) none
   | z=>cond (ke z [c]) (k (.d c)) none)
 | _,v=>k v
theorem Cn (agg:Bool) (z:aw) (v:AV) (k:AV→aH) :D4 agg z v k=(Al agg z v).bind k:=by
 cases agg with
 | true=>
  cases v with
  | d x=>
   cases x with
   | agg cs=>
    simp only [D4,Al]
    cases h:jF z cs with
    | true=>simp [DU h]
    | false=>simp
   | _=>rfl
  | _=>rfl
 | false=>
  cases v with
  | d c=>
   have other:cond (ke z [c]) (k (.d c)) none=(Al false z (.d c)).bind k:=by
    simp only [Al]
    cases ke z [c]<;>simp
   have kk: ∀z0:DV,ke [z0] [c]=z0.Ak c:=fun z0=>by simp [ke]
   match z with
   | []=>exact other
   | [.int q n]=>
    simp only [D4,Al,kk,DV.Ak]
    cases h:(DV.int q n).uv c with
    | true=>
     have :=mB h
     simp only [pN] at this
     simp [this]
    | false=>simp
   | [.bool b]=>
    simp only [D4,Al,kk,DV.Ak]
    cases h:(DV.bool b).uv c with
    | true=>
     have :=mB h
     simp only [pN] at this
     simp [this]
    | false=>simp
   | [.af]=>exact other
   | [.sl _ _ _]=>exact other
   | [.ag _ _ _]=>exact other
   | [.aI _ _]=>exact other
   | [.bn]=>exact other
   | [.func _ _]=>exact other
   | [.fN]=>exact other
   | [.agg _]=>exact other
   | [.tuple _]=>exact other
   | [.mv _ _ _]=>exact other
   | [.gi _ _]=>exact other
   | .int _ _::_::_=>exact other
   | .bool _::_::_=>exact other
   | .af::_::_=>exact other
   | .sl _ _ _::_::_=>exact other
   | .ag _ _ _::_::_=>exact other
   | .aI _ _::_::_=>exact other
   | .bn::_::_=>exact other
   | .func _ _::_::_=>exact other
   | .fN::_::_=>exact other
   | .agg _::_::_=>exact other
   | .tuple _::_::_=>exact other
   | .mv _ _ _::_::_=>exact other
   | .gi _ _::_::_=>exact other
  | _=>rfl
def Co (agg:Bool) (sz off:Nat) (e:aw) (k:AV→aH) :aH:=
 cond agg (cond (decide (off+sz≤e.length)) (k (.d (.agg ((e.drop off).take sz)))) none) (aA e[off]? fun c=>k (.d c))
theorem ym (agg:Bool) (sz off:Nat) (e:aw) (k:AV→aH) :Co agg sz off e k=(wy agg sz off e).bind k:=by
 unfold Co wy
 cases agg
 ·simp only [cond_false,bT,Bool.false_eq_true,if_false]
  cases e[off]? <;>rfl
 ·by_cases h:off+sz≤e.length<;>simp [h]
def FR (agg:Bool) (sz off:Nat) (e:List AV) (k:AV→aH) :aH:=
 cond agg (cond (decide (off+sz≤e.length)) (k (.agg ((e.drop off).take sz))) none) (aA e[off]? k)
theorem FT (agg:Bool) (sz off:Nat) (e:List AV) (k:AV→aH) :FR agg sz off e k=(DS agg sz off e).bind k:=by
 unfold FR DS
 cases agg
 ·simp only [cond_false,bT,Bool.false_eq_true,if_false]
 ·by_cases h:off+sz≤e.length<;>simp [h]
def oF (es:List (List AV)) (i:Nat) (k:List AV→aH) :aH:=
 match es with
 | []=>none
 | e::l=>cond (Nat.beq i 0) (k e) (oF l (i - 1) k)
theorem sx: ∀(es:List (List AV)) (i:Nat) (k:List AV→aH),oF es i k=(es[i]?).bind k
 | [],i,k=>by simp [oF]
 | e::l,0,k=>rfl
 | e::l,i+1,k=>by
  simp only [oF,Nat.add_sub_cancel,List.getElem?_cons_succ]
  rw [show Nat.beq (i+1) 0=false from rfl]
  exact sx l i k
def Cp (st:St) (agg:Bool) (sz:Nat) (x:AV) (k:AV→aH) :aH:=
 match x with
 | .d (.aI e off)=>Co agg sz off e k
 | .ptr s bd i off=>
  match st.aT s with
  | some (.aC _ cO es)=>if bd=cO then aA es[i]? fun e=>Co agg sz off e k else none
  | some (.mix _ cO es)=>if bd=cO then oF es i fun e=>FR agg sz off e k else none
  | none=>none
 | _=>none
theorem yn (st:St) (agg:Bool) (sz:Nat) (x:AV) (k:AV→aH) :Cp st agg sz x k=(dJ st agg sz x).bind k:=by
 cases x with
 | d x=>
  cases x with
  | aI e off=>exact ym _ _ _ _ _
  | _=>rfl
 | ptr s bd i off=>
  simp only [Cp,dJ]
  cases h:st.aT s with
  | none=>rfl
  | some o=>
   cases o with
   | aC el cO es=>
    simp only
    split
    ·simp only [bT,ym]
     cases es[i]? <;>rfl
    ·rfl
   | mix el cO es=>
    simp only
    split
    ·simp only [sx,FT]
     cases es[i]? <;>rfl
    ·rfl
 | _=>rfl
def IY (op:BinOp) (x y:AV) (k:AV→aH) :aH:=
 match x,y with
 | .d (.int q m),.d (.int q' n)=>
  if q=q' then
   match op with
   | .quo=>cond (decide (n=0)) none (k (.d (.int q (q.wrap (m.tdiv n)))))
   | .rem=>cond (decide (n=0)) none (k (.d (.int q (m.tmod n))))
   | op=>aA (sj op q m n) fun v=>k (.d v)
  else none
 | _,_=>none
theorem Cq (op:BinOp) (x y:AV) (k:AV→aH) :IY op x y k=(At op x y).bind k:=by
 cases x with
 | d x=>
  cases x with
  | int q m=>
   cases y with
   | d y=>
    cases y with
    | int q' n=>
     simp only [IY,At]
     by_cases h:q=q'
     ·rw [if_pos h,if_pos h]
      cases op<;>first
       | (by_cases h0:n=0<;>simp [sj,h0]; done)
       | (simp only [bT]; rfl)
       | (simp only [bT,sj,Option.bind_some,Option.map_some])
     ·rw [if_neg h,if_neg h]
      rfl
    | _=>rfl
   | _=>rfl
  | _=>rfl
 | _=>rfl
def IZ (op:BinOp) (x y:AV) (k:AV→aH) :aH:=
 match x,y with
 | .d (.int q m),.d (.int _ n)=>
  cond (decide (n < 0)) none (match op with
   | .shl=>k (.d (.int q (q.wrap (m * 2 ^ (min n.toNat q.bits)))))
   | .shr=>k (.d (.int q (m.fdiv (2 ^ (min n.toNat q.bits)))))
   | _=>none)
 | _,_=>none
theorem Cr (op:BinOp) (x y:AV) (k:AV→aH) :IZ op x y k=(pM op x y).bind k:=by
 cases x with
 | d x=>
  cases x with
  | int q m=>
   cases y with
   | d y=>
    cases y with
    | int q' n=>
     simp only [IZ,pM]
     by_cases h:n < 0
     ·simp [oq,h]
     ·cases op<;>simp [oq,h]
    | _=>rfl
   | _=>rfl
  | _=>rfl
 | _=>rfl
def Cs (st:St) (c a b:AX) (k:AV→aH) :aH:=
 match c with
 | .t t=>
  match st.env t with
  | .d (.bool cb)=>
   match a.ev (st.under t true),b.ev (st.under t false) with
   | .d (.bool x),.d (.bool y)=>k (.d (.bool (cond cb x y)))
   | .d (.int q x),.d (.int q' y)=>if q=q' then k (.d (.int q (cond cb x y))) else none
   | x,y=>cond cb (k x) (k y)
  | _=>none
 | _=>none
theorem yo (st:St) (c a b:AX) (k:AV→aH) :Cs st c a b k=(bw st (.pick c a b)).bind k:=by
 cases c with
 | t t=>
  simp only [Cs,bw]
  generalize st.env t=x
  cases x with
  | d x=>
   cases x with
   | bool cb=>
    simp only
    generalize a.ev (st.under t true)=p
    generalize b.ev (st.under t false)=q
    have other:cond cb (k p) (k q)=(some (if cb=true then p else q)).bind k:=by cases cb<;>rfl
    cases p with
    | d p=>
     cases q with
     | d q=>cases p<;>cases q<;>first | exact other | rfl | (simp only; split<;>rfl)
     | _=>cases p<;>exact other
    | _=>exact other
   | _=>rfl
  | _=>rfl
 | _=>rfl
def AA (st:St) (x:Option AX) (k:Option Int→aH) :aH:=
 match x with
 | none=>k none
 | some x=>match x.ev st with | .d (.int _ n)=>k (some n) | _=>none
theorem Ct (st:St) (x:Option AX) (k:Option Int→aH) :AA st x k=(dV st x).bind k:=by
 cases x with
 | none=>rfl
 | some x=>
  simp only [AA,dV]
  generalize x.ev st=v
  cases v with
  | d v=>cases v<;>rfl
  | _=>rfl
theorem D5 {p:Prop} [Decidable p] (a b:aH) :cond (decide p) a b=if p then a else b:=by
 by_cases h:p<;>simp [h]
def oG (sz:Nat) (x:AV) (lo hi mx:Option Int) (k:AV→aH) :aH:=
 match x with
 | .d .af=>cond (decide (lo.getD 0=0∧hi.getD 0=0∧mx.getD 0=0∧(mx.isSome→hi.isSome))) (k (.d .af)) none
 | .d (.sl q bd es)=>
  if sz=bd then
   cond (decide (0≤lo.getD 0)) (cond (decide (lo.getD 0≤hi.getD es.length)) (cond (decide (hi.getD es.length≤es.length))
    (match mx with
     | none=>cond (decide (hi.getD es.length=es.length∧q= .tight)) (k (.d (.sl .tight sz ((es.take (hi.getD es.length).toNat).drop (lo.getD 0).toNat)))) (k (.d (.sl .ro sz ((es.take (hi.getD es.length).toNat).drop (lo.getD 0).toNat))))
     | some m=>cond (decide (hi.isSome∧m=hi.getD es.length)) (k (.d (.sl .tight sz ((es.take (hi.getD es.length).toNat).drop (lo.getD 0).toNat)))) none) none) none) none
  else none
 | .d (.ag q bd es)=>
  cond (decide (sz=bd∨es.length=0))
   (cond (decide (0≤lo.getD 0)) (cond (decide (lo.getD 0≤hi.getD es.length)) (cond (decide (hi.getD es.length≤es.length))
    (match mx with
     | none=>k (.d (.ag false sz ((es.take (hi.getD es.length).toNat).drop (lo.getD 0).toNat)))
     | some m=>cond (decide (hi.isSome∧m=hi.getD es.length)) (k (.d (.ag true sz ((es.take (hi.getD es.length).toNat).drop (lo.getD 0).toNat)))) none) none) none) none)
   none
 | .ah s bd off n=>
  if sz=bd∧mx=none then
   cond (decide (0≤lo.getD 0)) (cond (decide (lo.getD 0≤hi.getD n)) (cond (decide (hi.getD n≤n))
    (k (.ah s sz (off+ (lo.getD 0).toNat) (hi.getD n - lo.getD 0).toNat)) none) none) none
  else none
 | _=>none
def wH (st:St) (sz:Nat) (x:AV) (lo hi mx:Option AX) (k:AV→aH) :aH:=
 AA st lo fun lo=>AA st hi fun hi=>AA st mx fun mx=>oG sz x lo hi mx k
theorem u5 (st:St) (sz:Nat) (x:AV) (lo hi mx:Option AX) (k:AV→aH) :wH st sz x lo hi mx k=(iL st sz x lo hi mx).bind k:=by
 unfold wH iL
 simp only [Ct]
 cases dV st lo with
 | none=>rfl
 | some lo=>
  cases dV st hi with
  | none=>rfl
  | some hi=>
   cases dV st mx with
   | none=>rfl
   | some mx=>
    simp only [Option.bind_some]
    cases x with
    | d x=>
     cases x with
     | af=>
      simp only [oG]
      by_cases h:(lo.getD 0=0∧hi.getD 0=0∧mx.getD 0=0∧(mx.isSome=true→hi.isSome=true))
      ·rw [if_pos h,decide_eq_true h]; rfl
      ·rw [if_neg h,decide_eq_false h]; rfl
     | sl q bd es=>
      simp only [oG]
      by_cases h1:sz=bd
      ·by_cases h2:0≤lo.getD 0
       ·by_cases h3:lo.getD 0≤hi.getD es.length
        ·by_cases h4:hi.getD es.length≤es.length
         ·rw [if_pos h1,if_pos ⟨h1,h2,h3,h4⟩,decide_eq_true h2,decide_eq_true h3,decide_eq_true h4]
          simp only [cond_true]
          cases mx with
          | none=>
           simp only
           by_cases h5:hi.getD es.length=es.length∧q= .tight
           ·rw [decide_eq_true h5,if_pos h5]; rfl
           ·rw [decide_eq_false h5,if_neg h5]; rfl
          | some m=>
           simp only
           by_cases h5:hi.isSome=true∧m=hi.getD es.length
           ·rw [decide_eq_true h5,if_pos h5]; rfl
           ·rw [decide_eq_false h5,if_neg h5]; rfl
         ·rw [if_pos h1,if_neg fun h=>h4 h.2.2.2,decide_eq_true h2,decide_eq_true h3,decide_eq_false h4]; rfl
        ·rw [if_pos h1,if_neg fun h=>h3 h.2.2.1,decide_eq_true h2,decide_eq_false h3]; rfl
       ·rw [if_pos h1,if_neg fun h=>h2 h.2.1,decide_eq_false h2]; rfl
      ·rw [if_neg h1,if_neg fun h=>h1 h.1]; rfl
     | ag q bd es=>
      simp only [oG]
      rw [D5]
      by_cases h1:sz=bd∨es.length=0
      ·by_cases h2:0≤lo.getD 0
       ·by_cases h3:lo.getD 0≤hi.getD es.length
        ·by_cases h4:hi.getD es.length≤es.length
         ·rw [if_pos h1,if_pos ⟨h1,h2,h3,h4⟩,decide_eq_true h2,decide_eq_true h3,decide_eq_true h4]
          simp only [cond_true]
          cases mx with
          | none=>rfl
          | some m=>
           simp only
           by_cases h5:hi.isSome=true∧m=hi.getD es.length
           ·rw [decide_eq_true h5,if_pos h5]; rfl
           ·rw [decide_eq_false h5,if_neg h5]; rfl
         ·rw [if_pos h1,if_neg fun h=>h4 h.2.2.2,decide_eq_true h2,decide_eq_true h3,decide_eq_false h4]; rfl
        ·rw [if_pos h1,if_neg fun h=>h3 h.2.2.1,decide_eq_true h2,decide_eq_false h3]; rfl
       ·rw [if_pos h1,if_neg fun h=>h2 h.2.1,decide_eq_false h2]; rfl
      ·rw [if_neg h1,if_neg fun h=>h1 h.1]; rfl
     | _=>rfl
    | ah s bd off n=>
     simp only [oG]
     by_cases h1:sz=bd∧mx=none
     ·by_cases h2:0≤lo.getD 0
      ·by_cases h3:lo.getD 0≤hi.getD n
       ·by_cases h4:hi.getD n≤n
        ·rw [if_pos h1,if_pos ⟨h1.1,h2,h3,h4,h1.2⟩,decide_eq_true h2,decide_eq_true h3,decide_eq_true h4]; rfl
        ·rw [if_pos h1,if_neg fun h=>h4 h.2.2.2.1,decide_eq_true h2,decide_eq_true h3,decide_eq_false h4]; rfl
       ·rw [if_pos h1,if_neg fun h=>h3 h.2.2.1,decide_eq_true h2,decide_eq_false h3]; rfl
      ·rw [if_pos h1,if_neg fun h=>h2 h.2.1,decide_eq_false h2]; rfl
     ·rw [if_neg h1,if_neg fun h=>h1 ⟨h.1,h.2.2.2.2⟩]; rfl
    | _=>rfl
def FU (m:Nat) (x:AV) (lo hi:Option Int) (k:AV→aH) :aH:=
 cond (decide (0≤lo.getD 0)) (cond (decide (lo.getD 0≤hi.getD m)) (cond (decide (hi.getD m≤m))
  (match x with
   | .ptr s sz i off=>k (.mA s sz i (off+ (lo.getD 0).toNat) (hi.getD m - lo.getD 0).toNat)
   | .d (.aI e off)=>cond (decide (off+m≤e.length)) (k (.d (.sl .ro 1 (((e.drop (off+ (lo.getD 0).toNat)).take (hi.getD m - lo.getD 0).toNat).map fun c=>[c])))) none
   | _=>none) none) none) none
def Cu (st:St) (m:Nat) (x:AV) (lo hi:Option AX) (k:AV→aH) :aH:=
 AA st lo fun lo=>AA st hi fun hi=>FU m x lo hi k
theorem yp (st:St) (m:Nat) (x:AV) (lo hi:Option AX) (k:AV→aH) :Cu st m x lo hi k=(sk st m x lo hi).bind k:=by
 unfold Cu sk
 simp only [Ct]
 cases dV st lo with
 | none=>rfl
 | some lo=>
  cases dV st hi with
  | none=>rfl
  | some hi=>
   simp only [Option.bind_some,FU]
   by_cases h2:0≤lo.getD 0
   ·by_cases h3:lo.getD 0≤hi.getD m
    ·by_cases h4:hi.getD m≤m
     ·rw [if_pos ⟨h2,h3,h4⟩,decide_eq_true h2,decide_eq_true h3,decide_eq_true h4]
      simp only [cond_true]
      cases x with
      | d x=>
       cases x with
       | aI e off=>
        simp only
        by_cases h5:off+m≤e.length
        ·rw [decide_eq_true h5,if_pos h5]; rfl
        ·rw [decide_eq_false h5,if_neg h5]; rfl
       | _=>rfl
      | _=>rfl
     ·rw [if_neg fun h=>h4 h.2.2,decide_eq_true h2,decide_eq_true h3,decide_eq_false h4]; rfl
    ·rw [if_neg fun h=>h3 h.2.1,decide_eq_true h2,decide_eq_false h3]; rfl
   ·rw [if_neg fun h=>h2 h.1,decide_eq_false h2]; rfl
def sy (st:St) (t:Nat) (want:Bool) (kt kf:St→aH) :aH:=
 match st.env t with
 | .d (.bool b)=>cond b (cond want (kt (st.lj t true)) (kf (st.lj t true))) (cond want (kf (st.lj t false)) (kt (st.lj t false)))
 | _=>none
def oI (st:St) :Nat→Bool→List (Nat×Bool)→(St→aH)→(St→aH)→aH
 | t,want,[],kt,kf=>sy st t want kt kf
 | t,want,(t',ck)::up,kt,kf=>
  match st.env t with
  | .d _=>sy st t want kt kf
  | .w t1 w1 _=>if t1=t'∧w1=ck then oI st t' ck up (fun dD=>sy dD t want kt kf) kf else none
  | _=>none
theorem sA (st:St) (t:Nat) (want b:Bool) (kt kf:St→aH) (h:st.env t= .d (.bool b)) :sy st t want kt kf=(if b==want then kt (st.lj t b) else kf (st.lj t b)):=by
 simp only [sy,h]
 cases b<;>cases want<;>rfl
theorem iP (st:St) (t:Nat) (want:Bool) (kt kf:St→aH) (h: ∀b,st.env t≠ .d (.bool b)) :sy st t want kt kf=none:=by
 unfold sy
 split
 ·rename_i b hb
  exact absurd hb (h b)
 ·rfl
def Rl (kt kf:St→aH) :Option (Bool×St)→aH
 | some (true,s)=>kt s
 | some (false,s)=>kf s
 | none=>none
theorem sB (st:St) : ∀(up:List (Nat×Bool)) (t:Nat) (want:Bool) (kt kf:St→aH),oI st t want up kt kf=Rl kt kf (st.branch t want up)
 | [],t,want,kt,kf=>by
  simp only [oI,St.branch]
  cases h:st.env t with
  | d x=>
   cases x with
   | bool b=>
    rw [sA st t want b kt kf h]
    simp only
    cases hb:(b==want)<;>rfl
   | _=>exact iP _ _ _ _ _ fun b hb=>by simp [h] at hb
  | _=>exact iP _ _ _ _ _ fun b hb=>by simp [h] at hb
 | (t',ck)::up,t,want,kt,kf=>by
  simp only [oI,St.branch]
  cases h:st.env t with
  | d x=>
   cases x with
   | bool b=>
    simp only
    rw [sA st t want b kt kf h]
    cases hb:(b==want)<;>rfl
   | _=>exact iP _ _ _ _ _ fun b hb=>by simp [h] at hb
  | w t1 w1 x=>
   simp only
   by_cases hc:t1=t'∧w1=ck
   ·rw [if_pos hc,if_pos hc,sB st up]
    cases hb:st.branch t' ck up with
    | none=>rfl
    | some r=>
     obtain ⟨r,dD⟩:=r
     cases r with
     | false=>rfl
     | true=>
      simp only [Rl]
      cases h1:dD.env t with
      | d x=>
       cases x with
       | bool b=>
        rw [sA dD t want b kt kf h1]
        simp only
        cases hb:(b==want)<;>rfl
       | _=>exact iP _ _ _ _ _ fun b hb=>by simp [h1] at hb
      | _=>exact iP _ _ _ _ _ fun b hb=>by simp [h1] at hb
   ·rw [if_neg hc,if_neg hc]
    rfl
  | _=>rfl
def pQ (st:St) (sz:Nat) (y:AV) (k:aj→aH) :aH:=
 match y with
 | .d .af=>k []
 | .d (.sl _ bd es)=>if sz=bd then k es else none
 | .d (.ag _ bd es)=>cond (decide (sz=bd∨es.length=0)) (k es) none
 | .ah s bd off len=>
  match st.aT s with
  | some (.aC _ cO es)=>if sz=bd∧sz=cO then cond (decide (off+len≤es.length)) (k ((es.drop off).take len)) none else none
  | _=>none
 | .mA s bd i off n=>aA (elems st sz (.mA s bd i off n)) k
 | _=>none
theorem u6 (st:St) (sz:Nat) (y:AV) (k:aj→aH) :pQ st sz y k=(elems st sz y).bind k:=by
 cases y with
 | d x=>
  cases x with
  | af=>rfl
  | sl q bd es=>
   simp only [pQ,elems]
   split<;>rfl
  | ag q bd es=>
   simp only [pQ,elems]
   by_cases h:sz=bd∨es.length=0
   ·rw [decide_eq_true h,if_pos h]; rfl
   ·rw [decide_eq_false h,if_neg h]; rfl
  | _=>rfl
 | ah s bd off len=>
  simp only [pQ,elems]
  cases st.aT s with
  | none=>rfl
  | some o=>
   cases o with
   | aC el cO es=>
    simp only
    by_cases h:sz=bd∧sz=cO
    ·by_cases h2:off+len≤es.length
     ·rw [if_pos h,decide_eq_true h2,if_pos ⟨h.1,h.2,h2⟩]; rfl
     ·rw [if_pos h,decide_eq_false h2,if_neg fun g=>h2 g.2.2]; rfl
    ·rw [if_neg h,if_neg fun g=>h ⟨g.1,g.2.1⟩]; rfl
   | mix el cO es=>rfl
 | mA s bd i off n=>exact bT _ _
 | _=>rfl
def Rm (st:St) (t:Nat) (x:AV) (k:St→aH) :aH:=
 match x with
 | .d .af=>k (st.put t x)
 | .d (.sl _ _ _)=>k (st.put t x)
 | .d (.ag _ _ _)=>k (st.put t x)
 | .ah _ _ _ _=>k (st.put t x)
 | _=>none
def yq (st:St) (t el sz bytes:Nat) (x:AV) (news:aj) (k:St→aH) :aH:=
 match x with
 | .d .af=>cond (decide (news.length * bytes≤room∧news.length≤room)) (k ((st.at_ t (.aC el sz news)).put t (.ah t sz 0 news.length))) none
 | .d (.sl .tight bd es)=>
  cond (decide (bd=sz∧(es++news).length * bytes≤room∧(es++news).length≤room∧es.all (fun e=>e.length==sz&&e.all DV.one))) (k ((st.at_ t (.aC el sz (es++news))).put t (.ah t sz 0 (es++news).length))) none
 | .d (.ag true bd es)=>
  cond (decide (bd=sz∧(es++news).length * bytes≤room∧(es++news).length≤room∧es.all (fun e=>e.length==sz&&e.all DV.one))) (k ((st.at_ t (.aC el sz (es++news))).put t (.ah t sz 0 (es++news).length))) none
 | .ah s bd off len=>
  match st.aT s with
  | some (.aC DW cO es)=>
   cond (decide (DW=el∧bd=sz∧cO=sz∧off=0∧len=es.length∧(es++news).length * bytes≤room∧(es++news).length≤room)) (k (((st.drop s).at_ (alt s t) (.aC el sz (es++news))).put t (.ah (alt s t) sz 0 (es++news).length))) none
  | _=>none
 | _=>none
def wI (st:St) (t el sz bytes:Nat) (x y:AV) (k:St→aH) :aH:=
 pQ st sz y fun news=>cond (decide (news.length=0)) (Rm st t x k) (cond (news.all (fun e=>e.length==sz&&e.all DV.one)) (yq st t el sz bytes x news k) none)
theorem fH {p:Prop} [Decidable p] (a b:aH) :cond (decide p) a b=if p then a else b:=by
 by_cases h:p<;>simp [h]
theorem g6 {p:Prop} [Decidable p] (a b:Option St) (k:St→aH) :(if p then a else b).bind k=if p then a.bind k else b.bind k:=by
 split<;>rfl
theorem AD (st:St) (t el sz bytes:Nat) (x y:AV) (k:St→aH) :wI st t el sz bytes x y k=(eK st t el sz bytes x y).bind k:=by
 unfold wI eK
 rw [u6]
 cases elems st sz y with
 | none=>rfl
 | some news=>
  simp only [Option.bind_some,fH,g6]
  by_cases h0:news.length=0
  ·rw [if_pos h0,if_pos h0]
   cases x with
   | d x=>cases x<;>rfl
   | _=>rfl
  ·rw [if_neg h0,if_neg h0]
   by_cases h1:news.all (fun e=>e.length==sz&&e.all DV.one)=true
   ·rw [h1,if_pos rfl]
    simp only [cond_true]
    cases x with
    | d x=>
     cases x with
     | af=>simp only [yq,fH,g6]; rfl
     | sl q bd es=>
      cases q with
      | tight=>simp only [yq,fH,g6]; rfl
      | _=>rfl
     | ag q bd es=>
      cases q with
      | true=>simp only [yq,fH,g6]; rfl
      | false=>rfl
     | _=>rfl
    | ah s bd off len=>
     simp only [yq]
     cases st.aT s with
     | none=>rfl
     | some o=>
      cases o with
      | aC DW cO es=>simp only [fH,g6]; rfl
      | mix DW cO es=>rfl
    | _=>rfl
   ·have Ln:news.all (fun e=>e.length==sz&&e.all DV.one)=false:=by simpa using h1
    rw [if_neg h1,Ln]
    rfl
def FV (st:St) (s el sz:Nat) (es:aj) (i off:Nat) (e:aw) (cs:List AV) (k:St→aH) :aH:=
 match dH cs with
 | some ds=>k (st.jJ s (.aC el sz (es.set i (aU e off ds))))
 | none=>k (st.jJ s (.mix el sz ((es.map (·.map AV.d)).set i (aU (e.map AV.d) off cs))))
def wJ (st:St) (sz:Nat) (a x:AV) (k:St→aH) :aH:=
 match a with
 | .ptr s bd i off=>
  if x.cells.length=sz∧x.cells.all AV.one then
   match st.aT s with
   | some (.aC el cO es)=>if bd=cO then aA es[i]? fun e=>cond (decide (off+sz≤e.length)) (FV st s el cO es i off e x.cells k) none else none
   | some (.mix el cO es)=>if bd=cO then aA es[i]? fun e=>cond (decide (off+sz≤e.length)) (k (st.jJ s (.mix el cO (es.set i (aU e off x.cells))))) none else none
   | none=>none
  else none
 | _=>none
theorem u7 (st:St) (sz:Nat) (a x:AV) (k:St→aH) :wJ st sz a x k=(fE st sz a x).bind k:=by
 cases a with
 | ptr s bd i off=>
  simp only [wJ,fE]
  by_cases hc:x.cells.length=sz∧x.cells.all AV.one=true
  ·rw [if_pos hc,if_pos hc]
   cases st.aT s with
   | none=>rfl
   | some o=>
    cases o with
    | aC el cO es=>
     simp only
     by_cases h1:bd=cO
     ·rw [if_pos h1,if_pos h1,bT]
      cases es[i]? with
      | none=>rfl
      | some e=>
       simp only [Option.bind_some,fH,g6]
       split
       ·unfold FV
        cases dH x.cells<;>rfl
       ·rfl
     ·rw [if_neg h1,if_neg h1]; rfl
    | mix el cO es=>
     simp only
     by_cases h1:bd=cO
     ·rw [if_pos h1,if_pos h1,bT]
      cases es[i]? with
      | none=>rfl
      | some e=>
       simp only [Option.bind_some,fH,g6]
       rfl
     ·rw [if_neg h1,if_neg h1]; rfl
  ·rw [if_neg hc,if_neg hc]; rfl
 | _=>rfl
def FW (st:St) (x y:AV) (k:Nat→St→aH) :aH:=
 pQ st 1 y fun news=>
 match x with
 | .mA s sz i off n=>
  (match st.aT s with
   | some (.aC el bd es)=>
    if sz=bd then
     aA es[i]? fun e=>cond (decide (off+n≤e.length)) (cond (news.all (fun r=>r.length==1&&r.all DV.one))
      (k (min news.length n) (st.jJ s (.aC el sz (es.set i (aU e off ((news.take n).map fun r=>r.headD .bn)))))) none) none
    else none
   | _=>none)
 | _=>none
theorem yr (st:St) (x y:AV) (k:Nat→St→aH) :FW st x y k=(qO st x y).bind fun p=>k p.1 p.2:=by
 unfold FW qO
 rw [u6]
 cases elems st 1 y with
 | none=>cases x<;>rfl
 | some news=>
  simp only [Option.bind_some]
  cases x with
  | mA s sz i off n=>
   simp only
   cases st.aT s with
   | none=>rfl
   | some o=>
    cases o with
    | mix=>rfl
    | aC el bd es=>
     simp only
     by_cases h1:sz=bd
     ·rw [if_pos h1,if_pos h1,bT]
      cases es[i]? with
      | none=>rfl
      | some e=>
       simp only [Option.bind_some]
       by_cases h2:off+n≤e.length
       ·rw [decide_eq_true h2,cond_true]
        cases h3:news.all (fun r=>r.length==1&&r.all DV.one) with
        | true=>rw [if_pos ⟨h2,rfl⟩]; rfl
        | false=>rw [if_neg fun h=>by cases h.2]; rfl
       ·rw [decide_eq_false h2,if_neg fun h=>h2 h.1]; rfl
     ·rw [if_neg h1,if_neg h1]; rfl
  | _=>rfl
def yt (st:St) (t el sz bytes:Nat) (z:aw) (l c:AV) (k:St→aH) :aH:=
 match l,c with
 | .d (.int _ m),.d (.int _ n)=>
  cond (decide (0≤m∧m≤n∧n.toNat * bytes≤room∧n.toNat≤room∧z.length=sz∧z.all DV.one)) (k ((st.at_ t (.aC el sz (List.replicate m.toNat z))).put t (.ah t sz 0 m.toNat))) none
 | _,_=>none
def Cv (st:St) (v:AV) (k:DV→aH) :aH:=
 match v with
 | .d x=>k x
 | .ah s sz off len=>
  match st.aT s with
  | some (.aC _ bd es)=>if sz=bd then cond (decide (off+len≤es.length)) (k (.sl .ro sz ((es.drop off).take len))) none else none
  | _=>aA (snap st (.ah s sz off len)) k
 | v=>aA (snap st v) k
theorem yu (st:St) (v:AV) (k:DV→aH) :Cv st v k=(snap st v).bind k:=by
 cases v with
 | d x=>rfl
 | ah s sz off len=>
  simp only [Cv]
  split
  ·rename_i el bd es h
   simp only [snap,bp,h]
   by_cases h1:sz=bd
   ·by_cases h2:off+len≤es.length
    ·rw [if_pos h1,if_pos ⟨h1,h2⟩,decide_eq_true h2]; rfl
    ·rw [if_pos h1,if_neg fun h=>h2 h.2,decide_eq_false h2]; rfl
   ·rw [if_neg h1,if_neg fun h=>h1 h.1]; rfl
  ·exact bT _ _
 | _=>first | exact bT _ _ | rfl
def lC (st:St) :List AV→(aw→aH)→aH
 | [],k=>k []
 | v::l,k=>uG v fun v=>Cv st v fun x=>lC st l fun xs=>k (x::xs)
theorem jO (st:St) : ∀(l:List AV) (k:aw→aH),lC st l k=(bm (snap st) l).bind k
 | [],k=>rfl
 | v::l,k=>by
  simp only [lC,fR,yu,jO st l,bm]
  cases snap st v with
  | none=>rfl
  | some x=>cases bm (snap st) l<;>rfl
abbrev cV:=FuncId→aw→(DV→aH)→aH
def cV.ok (call:FuncId→aw→aH) (bt:cV) :Prop:= ∀f ds k,bt f ds k=(call f ds).bind k
def St.I0 (st:St) (t:Nat) (o:Option Ob) :St:={st with aT:=fun n=>cond (Nat.beq n t) o (st.aT n)}
theorem St.Cw {st:St} {t:Nat} :st.I0 t (st.aT t)=st:=by
 cases st with
 | mk env aT=>
  simp only [St.I0,St.mk.injEq,true_and]
  funext n
  cases hn:Nat.beq n t with
  | true=>rw [Nat.eq_of_beq_eq_true hn]; rfl
  | false=>rfl
def Lo (n:Nat) (k:Nat→aH) :aH:=
 match n with
 | 0=>k 0
 | m+1=>k (m+1)
theorem pR (n:Nat) (k:Nat→aH) :Lo n k=k n:=by cases n<;>rfl
def wK:List Nat→(List Nat→aH)→aH
 | [],k=>k []
 | n::l,k=>Lo n fun n=>wK l fun l=>k (n::l)
theorem mE: ∀(l:List Nat) (k:List Nat→aH),wK l k=k l
 | [],_=>rfl
 | n::l,k=>by simp only [wK,pR,mE l]
def FX:List Nat→Nat→(Nat→aH)→aH
 | [],_,_=>none
 | a::l,s,k=>cond (Nat.beq a s) (k 0) (FX l s fun j=>k (j+1))
theorem wL: ∀(R:List Nat) (s:Nat) (k:Nat→aH),FX R s k=(idxOf R s).bind k
 | [],s,k=>rfl
 | a::l,s,k=>by
  simp only [FX,idxOf,wL l]
  cases Nat.beq a s with
  | true=>rfl
  | false=>simp only [cond_false]; cases idxOf l s<;>rfl
mutual
def AE (R:List Nat) :AV→(DV→aH)→aH
 | .d x,k=>k (.func 0 [x])
 | .ah s sz off n,k=>FX R s fun j=>k (.tuple [.aI [] j,.aI [] sz,.aI [] off,.aI [] n])
 | .ptr s sz i off,k=>FX R s fun j=>k (.agg [.aI [] j,.aI [] sz,.aI [] i,.aI [] off])
 | .agg cs,k=>sC R cs fun l=>k (.sl .ro 0 [l])
 | .tuple cs,k=>sC R cs fun l=>k (.sl .tight 0 [l])
 | .mA _ _ _ _ _,_=>none
 | .func _ _,_=>none
 | .w _ _ _,_=>none
 | .undef,_=>none
def sC (R:List Nat) :List AV→(aw→aH)→aH
 | [],k=>k []
 | v::l,k=>AE R v fun x=>sC R l fun m=>k (x::m)
end
mutual
theorem Cx (R:List Nat) : ∀(v:AV) (k:DV→aH),AE R v k=(v.enc R).bind k
 | .d x,k=>rfl
 | .ah s sz off n,k=>by simp only [AE,AV.enc,wL]; cases idxOf R s<;>rfl
 | .ptr s sz i off,k=>by simp only [AE,AV.enc,wL]; cases idxOf R s<;>rfl
 | .agg cs,k=>by simp only [AE,AV.enc,lL R cs]; cases gL R cs<;>rfl
 | .tuple cs,k=>by simp only [AE,AV.enc,lL R cs]; cases gL R cs<;>rfl
 | .mA _ _ _ _ _,_=>rfl
 | .func _ _,_=>rfl
 | .w _ _ _,_=>rfl
 | .undef,_=>rfl
theorem lL (R:List Nat) : ∀(l:List AV) (k:aw→aH),sC R l k=(gL R l).bind k
 | [],k=>rfl
 | v::l,k=>by
  simp only [sC,gL,Cx R v,lL R l]
  cases v.enc R with
  | none=>rfl
  | some x=>cases gL R l<;>rfl
end
def wM (R:List Nat) :List (List AV)→(aj→aH)→aH
 | [],k=>k []
 | e::l,k=>sC R e fun x=>wM R l fun m=>k (x::m)
theorem u9 (R:List Nat) : ∀(l:List (List AV)) (k:aj→aH),wM R l k=(nb R l).bind k
 | [],k=>rfl
 | e::l,k=>by
  simp only [wM,nb,lL R e,u9 R l]
  cases gL R e with
  | none=>rfl
  | some x=>cases nb R l<;>rfl
def wN (R:List Nat) (o:Ob) (k:DV→aH) :aH:=
 match o with
 | .aC el sz es=>k (.mv el sz es)
 | .mix el sz es=>wM R es fun rows=>k (.sl (.own el) sz rows)
theorem vb (R:List Nat) (o:Ob) (k:DV→aH) :wN R o k=(o.enc R).bind k:=by
 cases o with
 | aC=>rfl
 | mix el sz es=>simp only [wN,Ob.enc,u9]; cases nb R es<;>rfl
def I1 (st:St) (R:List Nat) :List Nat→(aw→aH)→aH
 | [],k=>k []
 | s::l,k=>match st.aT s with
  | some o=>wN R o fun x=>I1 st R l fun m=>k (x::m)
  | none=>none
theorem Cy (st:St) (R:List Nat) : ∀(l:List Nat) (k:aw→aH),I1 st R l k=(nc st R l).bind k
 | [],k=>rfl
 | s::l,k=>by
  simp only [I1,nc]
  cases st.aT s with
  | none=>rfl
  | some o=>
   simp only [vb,Option.bind_some,Cy st R l]
   cases o.enc R with
   | none=>rfl
   | some x=>cases nc st R l<;>rfl
def yv (st:St) (R:List Nat) :List Nat→(aw→aH)→aH
 | [],k=>k []
 | s::l,k=>match st.aT s with
  | some o=>wN R o fun x=>yv st R l fun m=>k (x::m)
  | none=>yv st R l fun m=>k (.bn::m)
theorem sD (st:St) (R:List Nat) : ∀(l:List Nat) (k:aw→aH),yv st R l k=(iM st R l).bind k
 | [],k=>rfl
 | s::l,k=>by
  simp only [yv,iM,Ca]
  cases st.aT s with
  | none=>
   simp only [sD st R l]
   cases iM st R l<;>rfl
  | some o=>
   simp only [vb,sD st R l]
   cases o.enc R with
   | none=>rfl
   | some x=>cases iM st R l<;>rfl
def AF (st:St) (avs:List AV) (k:List Nat→DV→aH) :aH:=
 FP avs fun avs=>wK (reach st 60 (names avs) []) fun R=>sC R avs fun vs=>I1 st R R fun os=>cond (nodup R) (k R (.gi vs os)) none
theorem vc (st:St) (avs:List AV) (k:List Nat→DV→aH) :AF st avs k=(sm st avs).bind fun p=>k p.1 p.2:=by
 simp only [AF,wG,mE,lL,Cy,sm]
 generalize reach st 60 (names avs) []=R
 cases gL R avs with
 | none=>rfl
 | some vs=>
  cases nc st R R with
  | none=>rfl
  | some os=>
   simp only [Option.bind_some]
   cases nodup R<;>rfl
def Cz (l:List AV) (ks:aw→aH) (kn:aH) :aH:=
 match l with
 | []=>ks []
 | .d x::l=>Cz l (fun m=>ks (x::m)) kn
 | _=>kn
theorem yw: ∀(l:List AV) (ks:aw→aH) (kn:aH),Cz l ks kn=(match dH l with | some m=>ks m | none=>kn)
 | [],ks,kn=>rfl
 | v::l,ks,kn=>by
  cases v with
  | d x=>
   simp only [Cz,dH,yw l]
   cases dH l<;>rfl
  | _=>rfl
def wO (l:List (List AV)) (ks:aj→aH) (kn:aH) :aH:=
 match l with
 | []=>ks []
 | e::l=>Cz e (fun x=>wO l (fun m=>ks (x::m)) kn) kn
theorem vd: ∀(l:List (List AV)) (ks:aj→aH) (kn:aH),wO l ks kn=(match g5 l with | some m=>ks m | none=>kn)
 | [],ks,kn=>rfl
 | e::l,ks,kn=>by
  simp only [wO,g5,yw,vd l]
  cases dH e with
  | none=>rfl
  | some x=>cases g5 l<;>rfl
mutual
def rF (τ:Nat→Nat) :DV→(AV→aH)→aH
 | .func _ [x],k=>k (.d x)
 | .tuple [.aI _ j,.aI _ sz,.aI _ off,.aI _ n],k=>Lo (τ j) fun s=>k (.ah s sz off n)
 | .agg [.aI _ j,.aI _ sz,.aI _ i,.aI _ off],k=>Lo (τ j) fun s=>k (.ptr s sz i off)
 | .sl .ro _ [l],k=>ve τ l fun l=>k (.agg l)
 | .sl .tight _ [l],k=>ve τ l fun l=>k (.tuple l)
 | x,k=>k (x.dec τ)
def ve (τ:Nat→Nat) :aw→(List AV→aH)→aH
 | [],k=>k []
 | x::l,k=>rF τ x fun v=>ve τ l fun m=>k (v::m)
end
theorem AG (τ:Nat→Nat) (cs:aw) (k:AV→aH) :rF τ (.tuple cs) k=k ((DV.tuple cs).dec τ):=by
 by_cases h: ∃e j e1 sz e2 off e3 n,cs=[.aI e j,.aI e1 sz,.aI e2 off,.aI e3 n]
 ·obtain ⟨e,j,e1,sz,e2,off,e3,n,rfl⟩:=h
  simp only [rF,DV.dec,pR]
 ·unfold rF
  split<;>first
   | rfl
   | (exfalso; rename_i heq; injection heq with heq; subst heq; exact h ⟨_,_,_,_,_,_,_,_,rfl⟩)
   | (rename_i heq; cases heq; done)
theorem FY (τ:Nat→Nat) (cs:aw) (k:AV→aH) :rF τ (.agg cs) k=k ((DV.agg cs).dec τ):=by
 by_cases h: ∃e j e1 sz e2 off e3 n,cs=[.aI e j,.aI e1 sz,.aI e2 off,.aI e3 n]
 ·obtain ⟨e,j,e1,sz,e2,off,e3,n,rfl⟩:=h
  simp only [rF,DV.dec,pR]
 ·unfold rF
  split<;>first
   | rfl
   | (exfalso; rename_i heq; injection heq with heq; subst heq; exact h ⟨_,_,_,_,_,_,_,_,rfl⟩)
   | (rename_i heq; cases heq; done)
mutual
theorem wP (τ:Nat→Nat) : ∀(x:DV) (k:AV→aH),rF τ x k=k (x.dec τ)
 | .sl .ro _ [l],k=>by simp only [rF,DV.dec,oJ τ l]
 | .sl .tight _ [l],k=>by simp only [rF,DV.dec,oJ τ l]
 | .sl .ro _ [],k=>rfl
 | .sl .ro _ (_::_::_),k=>rfl
 | .sl .tight _ [],k=>rfl
 | .sl .tight _ (_::_::_),k=>rfl
 | .sl (.own _) _ _,k=>rfl
 | .sl (.cT _) _ _,k=>rfl
 | .tuple cs,k=>AG τ cs k
 | .agg cs,k=>FY τ cs k
 | .func _ [],k=>rfl
 | .func _ [_],k=>rfl
 | .func _ (_::_::_),k=>rfl
 | .int _ _,k=>rfl
 | .bool _,k=>rfl
 | .af,k=>rfl
 | .ag _ _ _,k=>rfl
 | .aI _ _,k=>rfl
 | .bn,k=>rfl
 | .fN,k=>rfl
 | .mv _ _ _,k=>rfl
 | .gi _ _,k=>rfl
theorem oJ (τ:Nat→Nat) : ∀(l:aw) (k:List AV→aH),ve τ l k=k (jK τ l)
 | [],k=>rfl
 | x::l,k=>by simp only [ve,jK,wP τ x,oJ τ l]
end
def wQ (τ:Nat→Nat) :aj→(List (List AV)→aH)→aH
 | [],k=>k []
 | e::l,k=>ve τ e fun x=>wQ τ l fun m=>k (x::m)
theorem vh (τ:Nat→Nat) : ∀(l:aj) (k:List (List AV)→aH),wQ τ l k=k (l.map (jK τ))
 | [],k=>rfl
 | e::l,k=>by simp only [wQ,oJ,vh τ l,List.map_cons]
def CA (τ:Nat→Nat) (x:DV) (k:Option Ob→aH) :aH:=
 match x with
 | .mv el sz es=>k (some (.aC el sz es))
 | .sl (.own el) sz rows=>wQ τ rows fun rows=>wO rows (fun ds=>k (some (.aC el sz ds))) (k (some (.mix el sz rows)))
 | _=>k none
theorem yx (τ:Nat→Nat) (x:DV) (k:Option Ob→aH) :CA τ x k=k (x.ll τ):=by
 cases x with
 | sl q sz rows=>
  cases q with
  | own el=>
   simp only [CA,DV.ll,vh,vd,kg]
   cases g5 (rows.map (jK τ))<;>rfl
  | _=>rfl
 | _=>rfl
def rS (τ:Nat→Nat) :Nat→aw→(List (Nat×Option Ob)→aH)→aH
 | _,[],k=>k []
 | j,x::l,k=>Lo (τ j) fun s=>CA τ x fun o=>rS τ (j+1) l fun m=>k ((s,o)::m)
theorem sE (τ:Nat→Nat) : ∀(j:Nat) (l:aw) (k:List (Nat×Option Ob)→aH),rS τ j l k=k (ln τ j l)
 | _,[],k=>rfl
 | j,x::l,k=>by simp only [rS,ln,pR,yx,sE τ (j+1) l]
def mF:Nat→aw→(List (Nat×AV)→aH)→aH
 | _,[],k=>k []
 | j,x::l,k=>rF gM x fun v=>mF (j+1) l fun m=>k ((j,v)::m)
theorem oK: ∀(j:Nat) (l:aw) (k:List (Nat×AV)→aH),mF j l k=k (gr j l)
 | _,[],k=>rfl
 | j,x::l,k=>by simp only [mF,gr,wP,oK (j+1) l]
def oL:Nat→aw→(List (Nat×Option Ob)→aH)→aH
 | _,[],k=>k []
 | j,x::l,k=>Lo (gM j) fun s=>CA gM x fun o=>oL (j+1) l fun m=>k ((s,o)::m)
theorem qS: ∀(j:Nat) (l:aw) (k:List (Nat×Option Ob)→aH),oL j l k=k (kj j l)
 | _,[],k=>rfl
 | j,x::l,k=>by simp only [oL,kj,pR,yx,qS (j+1) l]
def wR (vs os:aw) (k:St→aH) :aH:=mF 0 vs fun vs=>oL 0 os fun os=>k (St.of vs os)
theorem vj (vs os:aw) (k:St→aH) :wR vs os k=k (St.oz vs os):=by
 simp only [wR,oK,qS]
 rfl
def CB (st:St) (n:Nat) (v:AV) (k:DV→aH) :aH:=
 wK (reach st 60 (((List.range n).map gM).flatMap st.named++names [v]) ((List.range n).map gM)) fun R=>
  AE R v fun x=>yv st R R fun os=>cond (nodup R&&ow (R.take n) ((List.range n).map gM)) (k (.gi [x] os)) none
theorem sF (st:St) (n:Nat) (v:AV) (k:DV→aH) :CB st n v k=(Av st n v).bind k:=by
 simp only [CB,mE,Cx,sD,Av]
 generalize reach st 60 (((List.range n).map gM).flatMap st.named++names [v]) ((List.range n).map gM)=R
 cases v.enc R with
 | none=>rfl
 | some x=>
  cases iM st R R with
  | none=>rfl
  | some os=>
   simp only [Option.bind_some]
   cases (nodup R&&ow (R.take n) ((List.range n).map gM))<;>rfl
def vk (st:St) (n:Nat) (res:List RV) (k:DV→aH) :aH:=
 aA (bm (RV.get st) res) fun vs=>match vs with
  | [v]=>uG v fun v=>CB st n v k
  | vs=>CB st n (.tuple vs) k
theorem oO (st:St) (n:Nat) (res:List RV) (k:DV→aH) :vk st n res k=(sr st n res).bind k:=by
 unfold vk sr
 rw [bT]
 cases bm (RV.get st) res with
 | none=>rfl
 | some vs=>
  simp only [Option.bind_some]
  match vs with
  | []=>exact sF _ _ _ _
  | [v]=>simp only [fR]; exact sF _ _ _ _
  | v::u::l=>exact sF _ _ _ _
def FZ (st:St) (s:Nat) (k:St→aH) :aH:=
 match st.aT s with
 | some (.mix el sz es)=>yi es fun es=>k (st.I0 s (some (.mix el sz es)))
 | _=>k st
theorem F0 (st:St) (s:Nat) (k:St→aH) :FZ st s k=k st:=by
 unfold FZ
 split
 ·rename_i el sz es h
  rw [su,← h,St.Cw]
 ·rfl
def CC:List Nat→St→(St→aH)→aH
 | [],st,k=>k st
 | s::l,st,k=>FZ st s fun st=>CC l st k
theorem yy: ∀(l:List Nat) (st:St) (k:St→aH),CC l st k=k st
 | [],_,_=>rfl
 | s::l,st,k=>by simp only [CC,F0,yy l]
def F1 (T:List Nat) (st:St) (k:St→aH) :aH:=
 wK (st.nv T) fun R=>cond (DY st R) (CC T (st.uW R) k) (k st)
theorem F2 (T:List Nat) (st:St) (k:St→aH) :F1 T st k=k (st.tidy T):=by
 simp only [F1,mE,yy,St.tidy]
 cases DY st (st.nv T)<;>rfl
def AH (R:List Nat) (t:Nat) (dst:Option Nat) (r:DV) (st:St) (k:St→aH) :aH:=
 match r with
 | .gi [x] os=>
  Lo os.length fun m=>Lo (FI R t m) fun b=>
  cond (Nat.ble R.length m&&nodup (dK (jL R t b) m 0))
   (wK (dK (jL R t b) (m - R.length) R.length) fun L=>rS (jL R t b) 0 os fun l=>rF (jL R t b) x fun v=>wK (dK (jL R t b) m 0) fun T=>F1 T ((St.gu L st).uF l) fun st=>k (st.uE dst v)) none
 | _=>none
theorem vm (R:List Nat) (t:Nat) (dst:Option Nat) (r:DV) (st:St) (k:St→aH) :AH R t dst r st k=(qP R t dst r st).bind k:=by
 unfold AH qP
 split
 ·rename_i x os
  simp only [pR,mE,sE,wP,F2]
  cases (Nat.ble R.length os.length&&nodup (dK (jL R t (FI R t os.length)) os.length 0))<;>rfl
 ·rename_i r hr
  first
  | rfl
  | (split<;>first | rfl | (rename_i x os; exact absurd rfl (hr x os)))
def F3 (t:Nat) (k:St→aH) (st:St) :aH:=MQ (st.aT t) fun o=>k (st.I0 t o)
theorem I2 (t:Nat) (k:St→aH) (st:St) :F3 t k st=k st:=by
 simp only [F3,Ck,St.Cw]
def rG (st:St) (t:Nat) (v:AV) (k:St→aH) :aH:=uG v.strip fun v=>k (st.put t v)
theorem gX (st:St) (t:Nat) (v:AV) (k:St→aH) :rG st t v k=k (st.put t v.strip):=fR _ _
def iQ (t:Nat) (r:DV) (st:St) (k:St→aH) :aH:=
 match r with
 | .int q n=>k (st.put t (.d (.int q n)))
 | .bool b=>k (st.put t (.d (.bool b)))
 | .sl (.own el) sz es=>k ((st.at_ t (.aC el sz es)).put t (.ah t sz 0 es.length))
 | .tuple vs=>cond (vs.any DV.dX) (k (place t (.tuple vs) st)) (IV vs fun vs=>k (st.put t (.d (.tuple vs))))
 | .agg vs=>cond (vs.any DV.dX) (k (place t (.agg vs) st)) (IV vs fun vs=>k (st.put t (.d (.agg vs))))
 | r=>k (place t r st)
theorem jP (t:Nat) (r:DV) (st:St) (k:St→aH) :iQ t r st k=k (place t r st):=by
 cases r with
 | sl q sz es=>cases q<;>rfl
 | tuple vs=>
  simp only [iQ]
  cases ho:vs.any DV.dX with
  | true=>rfl
  | false=>simp [lB,place,ho]
 | agg vs=>
  simp only [iQ]
  cases ho:vs.any DV.dX with
  | true=>rfl
  | false=>simp [lB,place,ho]
 | _=>rfl
def rT (args:List AV) (st:St) (k:St→aH) :aH:=
 wK (reach st 60 (names args) []) fun R=>cond (DX st R args) (k (st.mC R)) (k st.freeze)
theorem AI (args:List AV) (st:St) (k:St→aH) :rT args st k=k (st.oA args):=by
 simp only [rT,mE,St.oA]
 cases DX st (reach st 60 (names args) []) args<;>rfl
def AJ (t:Nat) (args:List AV) (r:DV) (st:St) (k:St→aH) :aH:=
 match r with
 | .int q n=>k (st.put t (.d (.int q n)))
 | .bool b=>k (st.put t (.d (.bool b)))
 | .sl (.own el) sz es=>cond (ba args) (cond (jr es) (k ((st.at_ t (.aC el sz es)).put t (.ah t sz 0 es.length))) none) (k ((st.at_ t (.aC el sz es)).put t (.ah t sz 0 es.length)))
 | .sl (.cT el) sz es=>cond (ba args) none (iQ t (.sl (.cT el) sz es) st k)
 | r=>cond (ba args&& !r.dz) (rT args st fun st=>iQ t r st k) (iQ t r st k)
theorem CD (t:Nat) (args:List AV) (r:DV) (st:St) (k:St→aH) :AJ t args r st k=(rD t args r st).bind k:=by
 have other:r.dX=false→cond (ba args&& !r.dz) (rT args st fun st=>iQ t r st k) (iQ t r st k)=(rD t args r st).bind k:=by
  intro ho
  simp only [rD,ho,Bool.false_and,Bool.false_eq_true,if_false,Option.bind_some,jP,FH,AI]
  cases (ba args&& !r.dz)<;>rfl
 cases r with
 | int q n=>simp [AJ,rD,FH,DV.dX,DV.dz,DV.plain,place]
 | bool b=>simp [AJ,rD,FH,DV.dX,DV.dz,DV.plain,place]
 | sl q sz es=>
  cases q with
  | own el=>
   simp only [AJ,rD,FH,DV.dX,DV.dz,DV.plain,Bool.true_and]
   by_cases h1:ba args=true<;>by_cases h2:jr es=true<;>simp [h1,h2,place]
  | cT el=>
   simp only [AJ,rD,FH,DV.dX,DV.dz,DV.plain,Bool.true_and,Bool.not_false,Bool.and_true]
   cases ba args<;>simp [jP]
  | ro=>exact other rfl
  | tight=>exact other rfl
 | _=>exact other rfl
def sG (st:St) (t:Nat) (op:bN) (k:St→aH) :aH:=
 match op with
 | .build z parts=>aA (bw st (.build z parts)) fun v=>Rk v fun v=>rG st t v k
 | .bc sz x i z=>nE sz (x.ev st) (i.ev st) fun v=>IX z v fun v=>rG st t v k
 | .load g sz x z=>Cp st g sz (x.ev st) fun v=>D4 g z v fun v=>Rk v fun v=>rG st t v k
 | .bin op x y=>IY op (x.ev st) (y.ev st) fun v=>rG st t v k
 | .lh op x y=>IZ op (x.ev st) (y.ev st) fun v=>rG st t v k
 | .pick c a b=>Cs st c a b fun v=>rG st t v k
 | .slice sz x lo hi mx=>wH st sz (x.ev st) lo hi mx fun v=>rG st t v k
 | .du rQ m x i=>FQ rQ m (x.ev st) (i.ev st) fun v=>rG st t v k
 | .mU m x lo hi=>Cu st m (x.ev st) lo hi fun v=>rG st t v k
 | op=>aA (bw st op) fun v=>rG st t v k
theorem I3 (st:St) (t:Nat) (op:bN) (k:St→aH) :sG st t op k=((bw st op).map fun v=>st.put t v.strip).bind k:=by
 have put: ∀(o:Option AV),(o.map fun v=>st.put t v.strip).bind k=o.bind fun v=>k (st.put t v.strip):=fun o=>by cases o<;>rfl
 rw [put]
 have other:aA (bw st op) (fun v=>rG st t v k)=(bw st op).bind fun v=>k (st.put t v.strip):=by
  simp only [bT,gX]
 cases op<;>first
  | exact other
  | skip
 case build z parts=>simp only [sG,bT,wF,gX]
 case bc sz x i z=>
  simp only [sG,u4,Cm,gX,bw]
  cases ig sz (x.ev st) (i.ev st)<;>rfl
 case load g sz x z=>
  simp only [sG,yn,Cn,wF,gX,bw]
  cases dJ st g sz (x.ev st)<;>rfl
 case bin op x y=>simp only [sG,Cq,gX,bw]
 case lh op x y=>simp only [sG,Cr,gX,bw]
 case pick c a b=>simp only [sG,yo,gX]
 case slice sz x lo hi mx=>simp only [sG,u5,gX,bw]
 case du rQ m x i=>simp only [sG,yl,gX,bw]
 case mU m x lo hi=>simp only [sG,yp,gX,bw]
def Am (call:FuncId→aw→aH) (bt:cV) (dst:Option Nat) (op:bN) (st:St) (k:St→aH) :aH:=
 match op,dst with
 | .store sz a x,none=>uG (a.ev st) fun a=>uG (x.ev st) fun x=>wJ st sz a x k
 | .b7 el sz bytes z l c,some t=>yt st t el sz bytes z (l.ev st) (c.ev st) k
 | .append el sz bytes x y,some t=>uG (x.ev st) fun x=>uG (y.ev st) fun y=>wI st t el sz bytes x y k
 | .call f args,some t=>
  lC st (args.map (·.ev st)) fun ds=>bt f ds fun r=>AJ t (args.map (·.ev st)) r st k
 | .ej g args,some t=>
  (match snap st (g.ev st),bm (snap st) (args.map (·.ev st)) with
   | some (.func f caps),some ds=>IV (ds++caps) fun ds=>bt f ds fun r=>AJ t (g.ev st::args.map (·.ev st)) r st k
   | _,_=>none)
 | .eO f x args,some t=>uG (x.ev st) fun x=>
  (match x with
   | .ah s sz off len=>
    (match st.aT s with
    | some (.aC el bd es)=>
     cond (ba (args.map (·.ev st))) none <| cond (decide (bd=sz∧off=0∧len=es.length))
      (lC st (args.map (·.ev st)) fun ds=>bt f (.mv el sz es::ds) fun r=>iQ t r (st.gE s) k) none
    | _=>none)
   | .d y=>lC st (.d y::args.map (·.ev st)) fun ds=>bt f ds fun r=>cond (ba (args.map (·.ev st))&& !r.plain) none (iQ t r st k)
   | _=>none)
 | .copy x y,dst=>uG (x.ev st) fun x=>uG (y.ev st) fun y=>FW st x y fun n st'=>k (st'.uE dst (.d (.int .i64 n)))
 | .aJ f args,dst=>AF st (args.map (·.ev st)) fun R d=>bt f (pad d) fun r=>AH R (dst.getD 49998) dst r st k
 | .box el sz x,some t=>uG (x.ev st) fun _=>aA (aK call (some t) (.box el sz x) st) (F3 t k)
 | .alloc el sz z,some t=>aA (aK call (some t) (.alloc el sz z) st) k
 | .aF el sz n z ps,some t=>aA (aK call (some t) (.aF el sz n z ps) st) (F3 t k)
 | op,some t=>sG st t op k
 | op,none=>aA (aK call none op st) k
theorem lM {call:FuncId→aw→aH} {bt:cV} (hK:cV.ok call bt) (dst:Option Nat) (op:bN) (st:St) (k:St→aH) :Am call bt dst op st k=(aK call dst op st).bind k:=by
 have other:aA (aK call dst op st) k=(aK call dst op st).bind k:=bT _ _
 have new: ∀t,aA (aK call dst op st) (F3 t k)=(aK call dst op st).bind k:=fun t=>by
  rw [bT]
  congr 1
  funext s
  exact I2 t k s
 cases op<;>cases dst<;>first
  | exact other
  | exact new _
  | (simp only [Am,fR]; exact new _)
  | (simp only [Am,aK,I3]; done)
  | skip
 case copy.none x y=>
  simp only [Am,aK,fR,yr]
  cases qO st (x.ev st) (y.ev st)<;>rfl
 case copy.some x y t=>
  simp only [Am,aK,fR,yr]
  cases qO st (x.ev st) (y.ev st)<;>rfl
 case aJ.none f args=>
  simp only [Am,aK,vc]
  cases sm st (args.map (·.ev st)) with
  | none=>rfl
  | some p=>
   simp only [Option.bind_some]
   rw [hK f _ _]
   simp only [vm]
   cases call f (pad p.2)<;>rfl
 case aJ.some f args t=>
  simp only [Am,aK,vc]
  cases sm st (args.map (·.ev st)) with
  | none=>rfl
  | some p=>
   simp only [Option.bind_some]
   rw [hK f _ _]
   simp only [vm]
   cases call f (pad p.2)<;>rfl
 case store.none sz a x=>
  simp only [Am,fR]
  exact u7 _ _ _ _ _
 case b7.some el sz bytes z l c t=>
  simp only [Am,aK,yt]
  generalize l.ev st=lv
  generalize c.ev st=cv
  cases lv with
  | d lv=>
   cases lv with
   | int q m=>
    cases cv with
    | d cv=>
     cases cv with
     | int q' n=>simp only [fH,g6]; rfl
     | _=>rfl
    | _=>rfl
   | _=>rfl
  | _=>rfl
 case append.some el sz bytes x y t=>
  simp only [Am,fR]
  exact AD _ _ _ _ _ _ _ _
 case call.some f args t=>
  simp only [Am,aK,jO]
  cases bm (snap st) (args.map (·.ev st)) with
  | none=>rfl
  | some ds=>
   simp only [Option.bind_some]
   rw [hK f ds _]
   simp only [CD]
   cases call f ds<;>rfl
 case eO.some f x args t=>
  simp only [Am,aK,fR,jO]
  cases x.ev st with
  | ah s sz off len=>
   simp only
   cases st.aT s with
   | none=>rfl
   | some ob=>
    cases ob with
    | mix=>rfl
    | aC el bd es=>
     cases mW:ba (args.map (·.ev st)) with
     | true=>
      simp only [cond_true,Bool.true_eq_false,and_false,if_false]
      rfl
     | false=>
     simp only [cond_false,fH,and_true]
     split
     ·cases bm (snap st) (args.map (·.ev st)) with
      | none=>rfl
      | some ds=>
       simp only [Option.bind_some]
       rw [hK f _ _]
       simp only [jP]
       cases call f (.mv el sz es::ds)<;>rfl
     ·rfl
  | d y=>
   simp only
   cases bm (snap st) (AV.d y::args.map (·.ev st)) with
   | none=>rfl
   | some ds=>
    simp only [Option.bind_some]
    rw [hK f ds _]
    cases call f ds with
    | none=>rfl
    | some r=>
     simp only [Option.bind_some,jP]
     cases (ba (args.map (·.ev st))&& !r.plain)<;>rfl
  | _=>rfl
 case ej.some g args t=>
  simp only [Am,aK]
  cases snap st (g.ev st) with
  | none=>rfl
  | some gv=>
   cases gv with
   | func f caps=>
    cases bm (snap st) (args.map (·.ev st)) with
    | none=>rfl
    | some ds=>
     simp only [lB]
     rw [hK f (ds++caps) _]
     simp only [CD]
     cases call f (ds++caps)<;>rfl
   | _=>rfl
def wS (r:DV) (k:DV→aH) :aH:=
 match r with
 | .int q n=>k (.int q n)
 | .bool b=>k (.bool b)
 | r=>k (ct r)
theorem pS (r:DV) (k:DV→aH) :wS r k=k (ct r):=by cases r<;>rfl
def lO (call:FuncId→aw→aH) (bt:cV) (op:bN) (st:St) (k:AV→aH) :aH:=
 match op with
 | .bc sz x i z=>nE sz (x.ev st) (i.ev st) fun v=>IX z v k
 | .load g sz x z=>Cp st g sz (x.ev st) fun v=>D4 g z v fun v=>Rk v k
 | .build z parts=>aA (bw st (.build z parts)) fun v=>Rk v k
 | .bin op x y=>IY op (x.ev st) (y.ev st) k
 | .lh op x y=>IZ op (x.ev st) (y.ev st) k
 | .pick c a b=>Cs st c a b k
 | .slice sz x lo hi mx=>wH st sz (x.ev st) lo hi mx k
 | .du rQ m x i=>FQ rQ m (x.ev st) (i.ev st) k
 | .mU m x lo hi=>Cu st m (x.ev st) lo hi k
 | .b7 _ sz bytes z l c=>
  (match l.ev st,c.ev st with
   | .d (.int _ m),.d (.int _ n)=>cond (decide (m=n∧0≤n∧n.toNat * bytes≤room∧n.toNat≤room∧z.length=sz∧z.all DV.one)) (k (.d (.sl .tight sz (List.replicate n.toNat z)))) none
   | _,_=>none)
 | .call f args=>
  lC st (args.map (·.ev st)) fun ds=>bt f ds fun r=>cond (ba (args.map (·.ev st))&& !r.plain) none (wS r fun r=>k (.d r))
 | .ej g args=>
  (match snap st (g.ev st),bm (snap st) (args.map (·.ev st)) with
   | some (.func f caps),some ds=>IV (ds++caps) fun ds=>bt f ds fun r=>cond (ba (g.ev st::args.map (·.ev st))&& !r.plain) none (wS r fun r=>k (.d r))
   | _,_=>none)
 | op=>aA (cC call op st) k
theorem sH {call:FuncId→aw→aH} {bt:cV} (hK:cV.ok call bt) (op:bN) (st:St) (k:AV→aH) :lO call bt op st k=(cC call op st).bind k:=by
 have other:aA (cC call op st) k=(cC call op st).bind k:=bT _ _
 have fin: ∀(b:Bool) (r:DV),cond b none (k (.d (ct r)))=(if b then none else some (AV.d (ct r))).bind k:=by intro b r; cases b<;>rfl
 cases op<;>first
  | exact other
  | skip
 case build z parts=>
  simp only [lO,wF,bT]
  rfl
 case bc sz x i z=>
  simp only [lO,u4,Cm,cC,bw]
  cases ig sz (x.ev st) (i.ev st)<;>rfl
 case load g sz x z=>
  simp only [lO,yn,Cn,wF,cC,bw]
  cases dJ st g sz (x.ev st)<;>rfl
 case b7 el sz bytes z l c=>
  simp only [lO,cC]
  generalize l.ev st=lv
  generalize c.ev st=cv
  cases lv with
  | d lv=>
   cases lv with
   | int q m=>
    cases cv with
    | d cv=>
     cases cv with
     | int q' n=>
      simp only [fH]
      split<;>rfl
     | _=>rfl
    | _=>rfl
   | _=>rfl
  | _=>rfl
 case bin op x y=>exact Cq _ _ _ _
 case lh op x y=>exact Cr _ _ _ _
 case pick c a b=>exact yo _ _ _ _ _
 case slice sz x lo hi mx=>exact u5 _ _ _ _ _ _ _
 case du rQ m x i=>exact yl _ _ _ _ _
 case mU m x lo hi=>exact yp _ _ _ _ _ _
 case call f args=>
  simp only [lO,cC,jO]
  cases bm (snap st) (args.map (·.ev st)) with
  | none=>rfl
  | some ds=>
   simp only [Option.bind_some,pS]
   rw [hK f ds _]
   cases call f ds with
   | none=>rfl
   | some r=>exact fin _ r
 case ej g args=>
  simp only [lO,cC]
  cases snap st (g.ev st) with
  | none=>rfl
  | some gv=>
   cases gv with
   | func f caps=>
    cases bm (snap st) (args.map (·.ev st)) with
    | none=>rfl
    | some ds=>
     simp only [lB,pS]
     rw [hK f (ds++caps) _]
     cases call f (ds++caps) with
     | none=>rfl
     | some r=>exact fin _ r
   | _=>rfl
def St.Iw (st:St) (t:Nat) (v:AV) :St:={st with env:=fun n=>cond (Nat.beq n t) v (st.env n)}
theorem St.pU {st:St} {t:Nat} {v:AV} (h:st.env t=v) :st.Iw t v=st:=by
 cases st with
 | mk env aT=>
  simp only [St.Iw,St.mk.injEq,and_true]
  funext n
  cases hn:Nat.beq n t with
  | true=>
   rw [Nat.eq_of_beq_eq_true hn]
   exact h.symm
  | false=>rfl
def oQ (st:St) :Nat→Bool→List (Nat×Bool)→(Bool→St→aH)→aH
 | t,want,[],k=>match st.env t with | .d (.bool b)=>cond b (k (!want) (st.Iw t (.d (.bool true)))) (k want (st.Iw t (.d (.bool false)))) | _=>k false st
 | t,want,(t',ck)::up,k=>
  match st.env t with
  | .d (.bool b)=>cond b (k (!want) (st.Iw t (.d (.bool true)))) (k want (st.Iw t (.d (.bool false))))
  | .w t1 w1 v=>
   if t1=t'∧w1=ck then
    (match v with
     | .d (.bool b)=>cond b (cond want (oQ (st.Iw t (.w t1 w1 (.d (.bool true)))) t' ck up k) (k true (st.Iw t (.w t1 w1 (.d (.bool true))))))
       (cond want (k true (st.Iw t (.w t1 w1 (.d (.bool false))))) (oQ (st.Iw t (.w t1 w1 (.d (.bool false)))) t' ck up k))
     | _=>oQ st t' ck up k)
   else k false st
  | _=>k false st
theorem iR: ∀(up:List (Nat×Bool)) (st:St) (t:Nat) (want:Bool) (k:Bool→St→aH),oQ st t want up k=k (st.dead t want up) st
 | [],st,t,want,k=>by
  simp only [oQ,St.dead]
  cases h:st.env t with
  | d x=>
   cases x with
   | bool b=>
    cases b
    ·simp only [cond_false,St.pU h]; cases want<;>rfl
    ·simp only [cond_true,St.pU h]; cases want<;>rfl
   | _=>rfl
  | _=>rfl
 | (t',ck)::up,st,t,want,k=>by
  simp only [oQ,St.dead]
  cases h:st.env t with
  | d x=>
   cases x with
   | bool b=>
    cases b
    ·simp only [cond_false,St.pU h]; cases want<;>rfl
    ·simp only [cond_true,St.pU h]; cases want<;>rfl
   | _=>rfl
  | w t1 w1 v=>
   simp only
   by_cases hc:t1=t'∧w1=ck
   ·rw [if_pos hc]
    simp only [hc,and_self,decide_true,Bool.true_and]
    rw [hc.1,hc.2] at h
    cases v with
    | d x=>
     cases x with
     | bool b=>
      cases b
      ·simp only [cond_false,St.pU h,iR up]; cases want<;>rfl
      ·simp only [cond_true,St.pU h,iR up]; cases want<;>rfl
     | _=>exact iR up _ _ _ _
    | _=>exact iR up _ _ _ _
   ·rw [if_neg hc]
    simp only [hc,decide_false,Bool.false_and]
  | _=>rfl
def AK (call:FuncId→aw→aH) (bt:cV) (op:bN) (d:Nat) (st:St) (k:St→aH) :aH:=
 match op with
 | .aF el sz len z parts=>
  (match cC call (.aF el sz len z parts) st with
   | some v=>k (st.put d v.strip)
   | none=>aA (oB (.aF el sz len z parts) d st) k)
 | op=>lO call bt op st fun v=>k (st.put d v.strip)
theorem D6 {call:FuncId→aw→aH} {bt:cV} (hK:cV.ok call bt) (op:bN) (d:Nat) (st:St) (k:St→aH) :AK call bt op d st k=(uX call op d st).bind k:=by
 have other:(∀d st,oB op d st=none)→lO call bt op st (fun v=>k (st.put d v.strip))=(uX call op d st).bind k:=fun h=>by
  rw [sH hK]
  unfold uX
  cases cC call op st with
  | none=>simp [h]
  | some v=>rfl
 cases op<;>first
  | exact other fun _ _=>rfl
  | skip
 rename_i el sz len z parts
 simp only [AK,uX]
 cases cC call (.aF el sz len z parts) st with
 | none=>exact bT _ _
 | some v=>rfl
def MS (call:FuncId→aw→aH) (bt:cV) (i:aN) (st:St) (k:St→aH) :aH:=
 match i.g with
 | none=>cond i.uu (Am call bt i.dst i.op st k) (match i.dst with | some d=>AK call bt i.op d st k | none=>none)
 | some (t,want)=>
  cond i.uu
   (match st.iv t want i.up,i.dst with
    | some h,some d=>
     (match cC call i.op h with
     | some v=>IU v fun v=>k (st.put d (.w t want v))
     | none=>oQ st t want i.up fun dd st=>cond dd (k (st.put d (.w t want .undef))) none)
    | _,_=>none)
   (oI st t want i.up (fun dD=>Am call bt i.dst i.op dD k) (fun dD=>k (dD.uE i.dst (.w t want .undef))))
theorem I4 {call:FuncId→aw→aH} {bt:cV} (hK:cV.ok call bt) (i:aN) (st:St) (k:St→aH) :MS call bt i st k=(iw call i st).bind k:=by
 unfold MS iw
 cases i.g with
 | none=>
  simp only
  cases i.uu with
  | true=>exact lM hK _ _ _ _
  | false=>
   simp only [cond_false,Bool.false_eq_true,if_false]
   cases i.dst with
   | none=>rfl
   | some d=>
    exact D6 hK _ _ _ _
 | some tw=>
  obtain ⟨t,want⟩:=tw
  simp only
  cases i.uu with
  | true=>
   simp only [cond_true,if_true]
   cases st.iv t want i.up with
   | none=>rfl
   | some h=>
    cases i.dst with
    | none=>rfl
    | some d=>
     simp only
     cases cC call i.op h with
     | some v=>exact Ch _ _
     | none=>
      simp only [iR]
      cases st.dead t want i.up<;>rfl
  | false=>
   simp only [cond_false,Bool.false_eq_true,if_false]
   rw [sB]
   cases st.branch t want i.up with
   | none=>rfl
   | some r=>
    obtain ⟨r,dD⟩:=r
    cases r with
    | false=>rfl
    | true=>exact lM hK _ _ _ _
def runK (call:FuncId→aw→aH) (bt:cV) :List aN→St→(St→aH)→aH
 | [],st,k=>k st
 | i::l,st,k=>MS call bt i st fun dD=>runK call bt l dD k
theorem CE {call:FuncId→aw→aH} {bt:cV} (hK:cV.ok call bt) : ∀(l:List aN) (st:St) (k:St→aH),runK call bt l st k=(ko call l st).bind k
 | [],st,k=>rfl
 | i::l,st,k=>by
  simp only [runK,ko]
  rw [I4 hK]
  cases iw call i st with
  | none=>rfl
  | some dD=>exact CE hK l dD k
def CF (call:FuncId→aw→aH) (bt:cV) (i:aN) (st:St) (k:AV→St→aH) :aH:=
 match i.g with
 | none=>lO call bt i.op st fun v=>k v.strip st
 | some (t,want)=>
  match st.iv t want i.up with
  | some h=>
   cond i.uu
    (match cC call i.op h with
     | some v=>IU v fun v=>k (.w t want v) st
     | none=>oQ st t want i.up fun dd st=>cond dd (k (.w t want .undef) st) none)
    (oQ st t want i.up fun dd st=>cond dd (k (.w t want .undef) st) (match st.iv t want i.up with
     | some h=>lO call bt i.op h fun v=>k (.w t want v) st
     | none=>none))
  | none=>none
theorem F4 {call:FuncId→aw→aH} {bt:cV} (hK:cV.ok call bt) (i:aN) (st:St) (k:AV→St→aH) :CF call bt i st k=(fG call i st).bind fun v=>k v st:=by
 unfold CF fG
 cases i.g with
 | none=>
  simp only
  rw [sH hK]
  cases cC call i.op st<;>rfl
 | some tw=>
  obtain ⟨t,want⟩:=tw
  simp only
  cases hh:st.iv t want i.up with
  | none=>rfl
  | some h=>
   simp only
   cases i.uu with
   | true=>
    simp only [cond_true,if_true]
    cases cC call i.op h with
    | some v=>exact Ch _ _
    | none=>
     simp only [iR]
     cases st.dead t want i.up<;>rfl
   | false=>
    simp only [cond_false,Bool.false_eq_true,if_false,iR,hh]
    cases st.dead t want i.up with
    | true=>rfl
    | false=>
     simp only [cond_false,Bool.false_eq_true,if_false]
     rw [sH hK]
     cases cC call i.op h<;>rfl
def AM (call:FuncId→aw→aH) (bt:cV) (dst:Option Nat) (op:bN) (st:St) (k:St→aH) :aH:=
 match op,dst with
 | .call f args,some t=>
  lC st (args.map (·.ev st)) fun ds=>bt f ds fun r=>cond (ba (args.map (·.ev st))&& !r.dz) none (iQ t r st k)
 | .ej _ _,_=>none
 | op,dst=>Am call bt dst op st k
theorem D7 {call:FuncId→aw→aH} {bt:cV} (hK:cV.ok call bt) (dst:Option Nat) (op:bN) (st:St) (k:St→aH) :AM call bt dst op st k=(cJ call dst op st).bind k:=by
 cases op<;>first
  | exact lM hK _ _ _ _
  | skip
 case call f args=>
  cases dst with
  | none=>exact lM hK none (.call f args) st k
  | some t=>
   simp only [AM,cJ,jO]
   cases bm (snap st) (args.map (·.ev st)) with
   | none=>rfl
   | some ds=>
    simp only [Option.bind_some]
    rw [hK f ds _]
    cases call f ds with
    | none=>rfl
    | some r=>
     simp only [Option.bind_some,jP]
     cases (ba (args.map (·.ev st))&& !r.dz)<;>rfl
 case ej g args=>cases dst<;>rfl
 case copy x y=>
  cases dst with
  | none=>exact lM hK none (.copy x y) st k
  | some t=>exact lM hK (some t) (.copy x y) st k
 case aJ f args=>
  cases dst with
  | none=>exact lM hK none (.aJ f args) st k
  | some t=>exact lM hK (some t) (.aJ f args) st k
def AN (call:FuncId→aw→aH) (bt:cV) (i:aN) (st:St) (k:St→aH) :aH:=
 cond i.e (AM call bt i.dst i.op st k) <|
 match i.op with
 | .store sz a x=>(match i.g,i.dst with
  | none,none=>uG (a.ev st) fun a=>uG (x.ev st) fun x=>wJ st sz a x k
  | _,_=>none)
 | _=>(match i.dst with
  | some d=>CF call bt i st fun v st=>uG v fun v=>k (st.put d v)
  | none=>none)
theorem D8 {call:FuncId→aw→aH} {bt:cV} (hK:cV.ok call bt) (i:aN) (st:St) (k:St→aH) :AN call bt i st k=(bD call i st).bind k:=by
 have v:(match i.dst with
  | some d=>CF call bt i st fun v st=>uG v fun v=>k (st.put d v)
  | none=>none)=(fU call i st).bind k:=by
  unfold fU
  cases i.dst with
  | none=>rfl
  | some d=>
   simp only [fR]
   rw [F4 hK]
   cases fG call i st<;>rfl
 unfold AN bD
 cases i.e with
 | true=>
  simp only [cond_true,if_true]
  exact D7 hK _ _ _ _
 | false=>
 simp only [cond_false,Bool.false_eq_true,if_false]
 cases i.op<;>first
  | exact v
  | skip
 simp only
 cases i.g with
 | none=>
  cases i.dst with
  | none=>
   simp only [fR]
   exact u7 _ _ _ _ _
  | some d=>rfl
 | some tw=>rfl
def CG (call:FuncId→aw→aH) (bt:cV) :List aN→St→(St→aH)→aH
 | [],st,k=>k st
 | i::l,st,k=>AN call bt i st fun dD=>CG call bt l dD k
theorem yz {call:FuncId→aw→aH} {bt:cV} (hK:cV.ok call bt) : ∀(l:List aN) (st:St) (k:St→aH),CG call bt l st k=(mV call l st).bind k
 | [],st,k=>rfl
 | i::l,st,k=>by
  simp only [CG,mV]
  rw [D8 hK]
  cases bD call i st with
  | none=>rfl
  | some dD=>exact yz hK l dD k
abbrev aX:=Ex→St→aH
def oR (f:St→aX→aH) :Nat→St→aX→aH
 | 0,_,_=>none
 | n+1,st,k=>f st fun e dD=>match e with | .bC=>oR f n dD k | e=>k e dD
abbrev mX:=Nat→(St→aX→aH)→Nat→St→aX→aH
def yA (h:Hint) (f:St→aX→aH) (st:St) (k:aX) :aH:=
 f st fun e dD=>match e with | .bC=>yk (St.rC h.fr dD) h (k .bC) | e=>k e dD
def fa (call:FuncId→aw→aH) (bt:cV) (rk:mX) (L:Nat) :AC→St→aX→aH
 | .skip,st,k=>k .bC st
 | .ae ops,st,k=>runK call bt ops st (k .bC)
 | .bG ops dyn,st,k=>CG call bt ops (St.k5 (kq ops) st) fun dD=>cond (dyn.all (iN dD)) (k .bC dD) none
 | .seq a b,st,k=>fa call bt rk L a st fun e dD=>match e with | .bC=>fa call bt rk L b dD k | e=>k e dD
 | .cond c a b,st,k=>
  match c.ev st with
  | .d (.bool t)=>cond t (fa call bt rk L a st k) (fa call bt rk L b st k)
  | _=>none
 | .block id b,st,k=>fa call bt rk L b st fun e dD=>match e with | .ex Lj=>if Lj=id then k .bC dD else k (.ex Lj) dD | e=>k e dD
 | .loop none b,st,k=>oR (fa call bt rk L b) L st k
 | .loop (some h) b,st,k=>yk (St.rC h.fr st) h fun st=>rk h.key (yA h (fa call bt rk L b)) L st k
 | .exit h id,st,k=>Az st h (k (.ex id))
 | .ret h,st,k=>Az st h (k .ret)
 | .bad,_,_=>none
def fin (k:aX) :Option (Ex×St)→aH
 | some (e,st)=>k e st
 | none=>none
theorem jQ {f:St→Option (Ex×St)} {fK:St→aX→aH} (h: ∀st k,fK st k=fin k (f st)) : ∀(n:Nat) (st:St) (k:aX),oR fK n st k=fin k (iter f n st)
 | 0,st,k=>rfl
 | n+1,st,k=>by
  simp only [oR,iter,h]
  cases f st with
  | none=>rfl
  | some r=>
   obtain ⟨e,dD⟩:=r
   cases e with
   | bC=>exact jQ h n dD k
   | _=>rfl
theorem yB {h:Hint} {f:St→Option (Ex×St)} {fK:St→aX→aH} (hf: ∀st k,fK st k=fin k (f st)) (st:St) (k:aX) :yA h fK st k=fin k (kp h f st):=by
 simp only [yA,kp,hf,sw]
 cases f st with
 | none=>rfl
 | some r=>
  obtain ⟨e,dD⟩:=r
  cases e<;>rfl
def mX.ok (run:uw) (rk:mX) :Prop:= ∀(key:Nat) (f:St→Option (Ex×St)) (fK:St→aX→aH),(∀st k,fK st k=fin k (f st))→ ∀(L:Nat) (st:St) (k:aX),rk key fK L st k=fin k (run key f L st)
def mX.plain:mX:=fun _ f L st k=>oR f L st k
theorem mX.jM:mX.ok uw.plain mX.plain:=fun _ f fK h L st k=>jQ h L st k
theorem ek {call:FuncId→aw→aH} {bt:cV} (hK:cV.ok call bt) {run:uw} {rk:mX} (hR:mX.ok run rk) (L:Nat) : ∀(c:AC) (st:St) (k:aX),fa call bt rk L c st k=fin k (exec call run L c st)
 | .skip,st,k=>rfl
 | .ae ops,st,k=>by
  simp only [fa,exec]
  rw [CE hK]
  cases ko call ops st<;>rfl
 | .bG ops dyn,st,k=>by
  simp only [fa,exec]
  rw [yz hK]
  cases mV call ops (St.k5 (kq ops) st) with
  | none=>rfl
  | some dD=>
   simp only [Option.bind_some]
   cases dyn.all (iN dD)<;>rfl
 | .seq a b,st,k=>by
  simp only [fa,exec]
  rw [ek hK hR L a]
  cases exec call run L a st with
  | none=>rfl
  | some r=>
   obtain ⟨e,dD⟩:=r
   cases e with
   | bC=>exact ek hK hR L b dD k
   | _=>rfl
 | .cond c a b,st,k=>by
  simp only [fa,exec]
  cases c.ev st with
  | d x=>
   cases x with
   | bool t=>
    cases t with
    | true=>exact ek hK hR L a st k
    | false=>exact ek hK hR L b st k
   | _=>rfl
  | _=>rfl
 | .block id b,st,k=>by
  simp only [fa,exec]
  rw [ek hK hR L b]
  cases exec call run L b st with
  | none=>rfl
  | some r=>
   obtain ⟨e,dD⟩:=r
   cases e with
   | ex Lj=>
    simp only [fin]
    split<;>rfl
   | _=>rfl
 | .loop none b,st,k=>by
  simp only [fa,exec]
  exact jQ (fun st k=>ek hK hR L b st k) L st k
 | .loop (some h) b,st,k=>by
  simp only [fa,exec,sw]
  exact hR _ _ _ (yB fun st k=>ek hK hR L b st k) _ _ _
 | .exit h id,st,k=>by
  simp only [fa,exec,u1]
  rfl
 | .ret h,st,k=>by
  simp only [fa,exec,u1]
  rfl
 | .bad,_,_=>rfl
def rU (st:St) (v:AV) (k:DV→aH) :aH:=
 match v with
 | .d x=>wS x k
 | .ah s sz off len=>
  match st.aT s with
  | some (.aC el bd es)=>if bd=sz∧off=0 then cond (decide (len=es.length)) (k (.sl (.own el) sz es)) (Cv st (.ah s sz off len) fun x=>k (ct x)) else aA (dL st (.ah s sz off len)) k
  | _=>aA (dL st (.ah s sz off len)) k
 | v=>aA (dL st v) k
theorem sI (st:St) (v:AV) (k:DV→aH) :rU st v k=(dL st v).bind k:=by
 cases v with
 | d x=>exact pS x k
 | ah s sz off len=>
  simp only [rU]
  split
  ·rename_i el bd es h
   by_cases h1:bd=sz∧off=0
   ·rw [if_pos h1]
    by_cases h2:len=es.length
    ·rw [decide_eq_true h2]
     simp only [dL,h]
     rw [if_pos ⟨h1.1,h1.2,h2⟩]
     rfl
    ·rw [decide_eq_false h2]
     simp only [dL,h,cond_false,yu]
     rw [if_neg fun g=>h2 g.2.2]
     cases snap st (.ah s sz off len)<;>rfl
   ·rw [if_neg h1]
    exact bT _ _
  ·exact bT _ _
 | _=>first | exact bT _ _ | rfl
def lQ (st:St) :List AV→(aw→aH)→aH
 | [],k=>k []
 | v::l,k=>uG v fun v=>rU st v fun x=>lQ st l fun xs=>k (x::xs)
theorem lS (st:St) : ∀(l:List AV) (k:aw→aH),lQ st l k=(bm (dL st) l).bind k
 | [],k=>rfl
 | v::l,k=>by
  simp only [lQ,fR,sI,lS st l,bm]
  cases dL st v with
  | none=>rfl
  | some x=>cases bm (dL st) l<;>rfl
def rV (st:St) (v:AV) (k:DV→aH) :aH:=
 cond (nodup (v.sites++v.sites.flatMap st.inner)&&v.sites.all (st.pO v.sites))
  (match v with
   | .tuple vs=>lQ st vs fun l=>k (.tuple l)
   | .agg vs=>lQ st vs fun l=>k (.agg l)
   | v=>rU st v k)
  (aA ((snap st v).map ct) k)
theorem nF (st:St) (v:AV) (k:DV→aH) :rV st v k=(nw st v).bind k:=by
 unfold rV nw
 cases hc:(nodup (v.sites++v.sites.flatMap st.inner)&&v.sites.all (st.pO v.sites)) with
 | false=>exact bT _ _
 | true=>
  simp only [cond_true,if_true]
  cases v with
  | tuple vs=>
   simp only [lS]
   cases bm (dL st) vs<;>rfl
  | agg vs=>
   simp only [lS]
   cases bm (dL st) vs<;>rfl
  | _=>exact sI _ _ _
def jt (st:St) (res:List RV) (k:DV→aH) :aH:=
 aA (bm (RV.get st) res) fun vs=>match vs with
  | [v]=>uG v fun v=>rV st v k
  | vs=>rV st (.tuple vs) k
theorem gy (st:St) (res:List RV) (k:DV→aH) :jt st res k=(jN st res).bind k:=by
 unfold jt jN
 rw [bT]
 cases bm (RV.get st) res with
 | none=>rfl
 | some vs=>
  simp only [Option.bind_some]
  match vs with
  | []=>exact nF _ _ _
  | [v]=>simp only [fR]; exact nF _ _ _
  | v::u::l=>exact nF _ _ _
theorem wrap_i64 (n:Int) :IntKind.i64.wrap n=(if n % 18446744073709551616≥9223372036854775808 then n % 18446744073709551616 - 18446744073709551616 else n % 18446744073709551616):=by
 simp [IntKind.wrap,IntKind.bits,IntKind.signed]
theorem bx {n:Int} (h1: -9223372036854775808≤n) (h2:n≤9223372036854775807) :IntKind.i64.wrap n=n:=by
 rw [wrap_i64]
 split<;>omega
theorem wf_i64 {n:Int} (h:(Lit.int .i64 n).wf=true) : -9223372036854775808≤n∧n≤9223372036854775807:=(Lit.wf_int_iff .i64 n).1 h
theorem I5 {α:Type} {c:Bool} {a b r:α} (h1:c=true→a=r) (h2:c=false→b=r) :cond c a b=r:=by
 cases c
 ·exact h2 rfl
 ·exact h1 rfl
end Go.Proofs.YtglbgfcegifeeaaGreat.Vm
