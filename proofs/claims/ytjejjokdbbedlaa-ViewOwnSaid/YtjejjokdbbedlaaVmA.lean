/- A pure machine over data that stands for runs of the translated code: its values, its operations, how the code is compiled to it. No condition. -/
import Derived.Calls
import Derived.Orders
import Derived.Below
import Derived.Laws.AppendOwn
import Derived.Laws.MakeOwn
import Derived.Laws.Cells
import Derived.Laws.CopyRow
import Derived.Laws.StructEq
import Derived.KernelRfl
namespace Go.Proofs.Ytjejjokdbbedlaa.Vm
open Go Go.RowKit
set_option linter.unusedVariables false
set_option linter.unusedSimpArgs false

/-- How a slice of data lies: to be read alone; its capacity its length; owned by the call that hands it back; owned so, and its cells too. -/
inductive SK where
  | ro
  | tight
  | own (el : TypeId)
  | own2 (el : TypeId)
  deriving DecidableEq

/-- Data: never written again. A slice bears its elements, each a row of cells of one length; 'sla': a slice, or none if it has no elements. 'mv': an object that is handed over, whole. -/
inductive DV where
  | int (k : IntKind) (n : Int)
  | bool (b : Bool)
  | nilsl
  | sl (k : SK) (sz : Nat) (es : List (List DV))
  | sla (tt : Bool) (sz : Nat) (es : List (List DV))
  | rptr (e : List DV) (off : Nat)
  | nilptr
  | func (f : FuncId) (caps : List DV)
  | nilfunc
  | agg (cs : List DV)
  | tuple (vs : List DV)
  | mv (el : TypeId) (sz : Nat) (es : List (List DV))

/-- What a slot holds: data, a slice of a local object, a pointer into one, or a bundle of these; 'w t want v': v, if slot t is the bool want. -/
inductive AV where
  | d (x : DV)
  | aref (s sz off len : Nat)
  | ptr (s sz i off : Nat)
  | func (f : FuncId) (caps : List AV)
  | agg (cs : List AV)
  | tuple (vs : List AV)
  | w (t : Nat) (want : Bool) (v : AV)
  | undef

/-- A local object: rows of cells. -/
inductive Ob where
  | dat (el : TypeId) (sz : Nat) (es : List (List DV))
  | mix (el : TypeId) (sz : Nat) (es : List (List AV))

structure St where
  env : Nat → AV
  seg : Nat → Option Ob

/-- An operand. -/
inductive AX where
  | t (n : Nat)
  | k (c : DV)
  | fn (f : FuncId)

/-- a value that hangs on a slot is no value by itself -/
def AV.strip : AV → AV
  | .w _ _ _ => .undef
  | v => v
def AX.ev (st : St) : AX → AV
  | .t n => (st.env n).strip
  | .k c => .d c
  | .fn g => .d (.func g [])

inductive AOp where
  | mv (x : AX)
  | pick (c a b : AX)
  | box (el sz : Nat) (x : AX)
  | alloc (el sz : Nat) (z : List DV)
  | build (z : List DV) (parts : List (Nat × Nat × AX))
  | bslice (el sz len : Nat) (z : List DV) (parts : List (Nat × AX))
  | load (agg : Bool) (sz : Nat) (x : AX) (z : List DV)
  | store (sz : Nat) (a x : AX)
  | bin (op : BinOp) (x y : AX)
  | eqb (neg : Bool) (x y : AX)
  | eqs (neg : Bool) (n : Nat) (x y : AX)
  | shf (op : BinOp) (x y : AX)
  | un (op : UnOp) (x : AX)
  | conv (k : IntKind) (x : AX)
  | faddr (off : Nat) (x : AX)
  | iaddr (sz : Nat) (x i : AX) (z : List DV)
  | slice (sz : Nat) (x : AX) (lo hi mx : Option AX)
  | ext (x : AX) (i : Nat)
  | len (x : AX)
  | mx (xs : List AX)
  | mn (xs : List AX)
  | append (el sz bytes : Nat) (x y : AX)
  | mkslice (el sz bytes : Nat) (z : List DV) (l c : AX)
  | mkfn (f : FuncId) (caps : List AX)
  | eqnil (neg : Bool) (x : AX)
  | call (f : FuncId) (args : List AX)
  | mcall (f : FuncId) (x : AX) (args : List AX)
  | dcall (f : AX) (args : List AX)

/-- an operation: its guard, the guards above that one, whether it cannot fail -/
structure AIns where
  dst : Option Nat
  g : Option (Nat × Bool)
  up : List (Nat × Bool)
  tot : Bool
  op : AOp

/-- at a loop or an exit: its key, the slots and the sites that are read behind it (a hint alone: the others are forgotten) -/
structure Hint where
  key : Nat
  lv : List Nat
  ls : List Nat
  lr : List Nat
  fr : List Nat

inductive AC where
  | skip
  | reg (ops : List AIns)
  | dreg (ops : List AIns) (dyn : List (Nat × Nat))
  | seq (a b : AC)
  | cond (c : AX) (a b : AC)
  | block (id : Nat) (b : AC)
  | loop (h : Option Hint) (b : AC)
  | exit (h : Option Hint) (id : Nat)
  | ret (h : Option Hint)
  | bad

/-! ### mentions -/
mutual
def AV.has (s : Nat) : AV → Bool
  | .d _ => false
  | .aref s' _ _ _ => s' == s
  | .ptr s' _ _ _ => s' == s
  | .func _ cs => hasL s cs
  | .agg cs => hasL s cs
  | .tuple cs => hasL s cs
  | .w _ _ v => v.has s
  | .undef => false
def hasL (s : Nat) : List AV → Bool
  | [] => false
  | v :: l => v.has s || hasL s l
end
def AV.kill (s : Nat) (v : AV) : AV := if v.has s then .undef else v
def Ob.has (s : Nat) : Ob → Bool
  | .dat _ _ _ => false
  | .mix _ _ es => es.any (hasL s)
def Ob.kill (s : Nat) (o : Ob) : Option Ob := if o.has s then none else some o

mutual
def AV.anySite : AV → Bool
  | .d _ => false
  | .aref _ _ _ _ => true
  | .ptr _ _ _ _ => true
  | .func _ cs => anySiteL cs
  | .agg cs => anySiteL cs
  | .tuple cs => anySiteL cs
  | .w _ _ _ => true
  | .undef => false
def anySiteL : List AV → Bool
  | [] => false
  | v :: l => v.anySite || anySiteL l
end

/-! ### data without references -/
def DV.isOwn : DV → Bool
  | .sl (.own _) _ _ => true
  | .sl (.own2 _) _ _ => true
  | _ => false

mutual
def DV.plain : DV → Bool
  | .int _ _ | .bool _ | .nilsl | .nilptr | .nilfunc => true
  | .sl (.own _) _ es => plainLL es
  | .sl _ _ _ => false
  | .sla _ _ _ => false
  | .rptr _ _ => false
  | .func _ cs => plainL cs
  | .agg cs => plainL cs
  | .tuple cs => plainL cs
  | .mv _ _ _ => false
def plainL : List DV → Bool
  | [] => true
  | v :: l => v.plain && !v.isOwn && plainL l
def plainLL : List (List DV) → Bool
  | [] => true
  | v :: l => plainL v && plainLL l
end

/-! ### cells -/
def DV.cells : DV → List DV
  | .agg cs => cs
  | x => [x]
def AV.cells : AV → List AV
  | .agg cs => cs
  | .d (.agg cs) => cs.map .d
  | x => [x]
def DV.one : DV → Bool
  | .agg _ | .tuple _ | .mv _ _ _ => false
  | _ => true
def AV.one : AV → Bool
  | .d x => x.one
  | .agg _ | .tuple _ | .w _ _ _ | .undef => false
  | _ => true
def AV.dat? : AV → Option DV
  | .d x => some x
  | _ => none
/-- cells that are all data -/
def datL : List AV → Option (List DV)
  | [] => some []
  | .d x :: l => (datL l).map (x :: ·)
  | _ :: _ => none
/-! ### the state -/
/-- what hung on a slot that is written anew is forgotten -/
def AV.killW (t : Nat) : AV → AV
  | .w t' want v => if t' = t then .undef else .w t' want v
  | v => v
/-- a value, where a slot is known to be so -/
def AV.un (t : Nat) (want : Bool) : AV → AV
  | .w t' want' v => if t' = t ∧ want' = want then v.strip else .w t' want' v
  | v => v
def St.under (st : St) (t : Nat) (want : Bool) : St := { st with env := fun n => (st.env n).un t want }
/-- a slot is known to be so -/
def St.know (st : St) (t : Nat) (b : Bool) : St := { st with env := fun n => if n = t then .d (.bool b) else (st.env n).un t b }
/-- the state, should a guard be so, and those above it -/
def St.hypL (st : St) : Nat → Bool → List (Nat × Bool) → Option St
  | t, want, [] => match st.env t with | .d (.bool _) => some (st.under t want) | _ => none
  | t, want, (t', want') :: up =>
    match st.env t with
    | .d (.bool _) => some (st.under t want)
    | .w t1 w1 _ => if t1 = t' ∧ w1 = want' then (st.hypL t' want' up).map fun s => s.under t want else none
    | _ => none
/-- a guard that is not so for sure -/
def St.dead (st : St) : Nat → Bool → List (Nat × Bool) → Bool
  | t, want, [] => match st.env t with | .d (.bool b) => b != want | _ => false
  | t, want, (t', want') :: up =>
    match st.env t with
    | .d (.bool b) => b != want
    | .w t1 w1 v => decide (t1 = t' ∧ w1 = want') && ((match v with | .d (.bool b) => b != want | _ => false) || st.dead t' want' up)
    | _ => false
/-- is a guard so? and the state that knows -/
def St.branch (st : St) : Nat → Bool → List (Nat × Bool) → Option (Bool × St)
  | t, want, [] => match st.env t with | .d (.bool b) => some (b == want, st.know t b) | _ => none
  | t, want, (t', want') :: up =>
    match st.env t with
    | .d (.bool b) => some (b == want, st.know t b)
    | .w t1 w1 _ =>
      if t1 = t' ∧ w1 = want' then
        match st.branch t' want' up with
        | some (true, st1) => (match st1.env t with | .d (.bool b) => some (b == want, st1.know t b) | _ => none)
        | some (false, st1) => some (false, st1)
        | none => none
      else none
    | _ => none
def St.put (st : St) (t : Nat) (v : AV) : St := { st with env := fun n => if n = t then v else (st.env n).killW t }
def St.putO (st : St) (t : Option Nat) (v : AV) : St := match t with | some t => st.put t v | none => st
/-- an object at a site; what named the site's old one is forgotten -/
def St.at_ (st : St) (s : Nat) (o : Ob) : St :=
  { env := fun n => (st.env n).kill s, seg := fun n => if n = s then some o else (st.seg n).bind (Ob.kill s) }
/-- an object changed where it is -/
def St.upd (st : St) (s : Nat) (o : Ob) : St := { st with seg := fun n => if n = s then some o else st.seg n }
def St.lose (st : St) (s : Nat) : St := { env := fun n => (st.env n).kill s, seg := fun n => if n = s then none else (st.seg n).bind (Ob.kill s) }
def St.drop (st : St) (s : Nat) : St := { st with seg := fun n => if n = s then none else st.seg n }

/-! ### an object told by another name -/
mutual
def AV.ren (s t : Nat) : AV → AV
  | .d x => .d x
  | .aref s' sz off len => .aref (cond (Nat.beq s' s) t s') sz off len
  | .ptr s' sz i off => .ptr (cond (Nat.beq s' s) t s') sz i off
  | .func f cs => .func f (renL s t cs)
  | .agg cs => .agg (renL s t cs)
  | .tuple cs => .tuple (renL s t cs)
  | .w q want v => .w q want (v.ren s t)
  | .undef => .undef
def renL (s t : Nat) : List AV → List AV
  | [] => []
  | v :: l => v.ren s t :: renL s t l
end
def Ob.ren (s t : Nat) : Ob → Ob
  | .dat el sz es => .dat el sz es
  | .mix el sz es => .mix el sz (es.map (renL s t))
/-- the object at a site, moved to another one, which is lost -/
def St.ren (st : St) (s t : Nat) : St :=
  { env := fun n => (((st.env n).kill t)).ren s t, seg := fun n => cond (Nat.beq n s) none (cond (Nat.beq n t) (((st.seg s).bind (Ob.kill t)).map (Ob.ren s t)) (((st.seg n).bind (Ob.kill t)).map (Ob.ren s t))) }
/-- sites at which nothing is -/
def St.frees : List Nat → St → St
  | [], st => st
  | t :: l, st => St.frees l (st.ren t (t + 50000))

/-- a site at which nothing is -/
def freeAt (st : St) (t : Nat) : Nat → Nat → Nat
  | 0, k => t + 50000 + 100000 * k
  | n + 1, k => match st.seg (t + 50000 + 100000 * k) with | none => t + 50000 + 100000 * k | some _ => freeAt st t n (k + 1)
theorem freeAt_ne (st : St) (t : Nat) : ∀ n k, t ≠ freeAt st t n k
  | 0, k => by simp only [freeAt]; omega
  | n + 1, k => by
    simp only [freeAt]
    split
    · omega
    · exact freeAt_ne st t n (k + 1)
/-- what is at sites goes to sites at which nothing is -/
def St.away : List Nat → St → St
  | [], st => st
  | t :: l, st => St.away l (match st.seg t with | none => st | some _ => st.ren t (freeAt st t 7 0))

/-! ### what is read behind is kept, the rest forgotten -/
def pickAV : List (Nat × AV) → Nat → AV
  | [], _ => .undef
  | (m, v) :: l, n => cond (Nat.beq n m) v (pickAV l n)
def pickOb : List (Nat × Option Ob) → Nat → Option Ob
  | [], _ => none
  | (m, v) :: l, n => cond (Nat.beq n m) v (pickOb l n)
def St.of (vs : List (Nat × AV)) (os : List (Nat × Option Ob)) : St := ⟨pickAV vs, pickOb os⟩
def St.keep (st : St) (h : Hint) : St := St.of (h.lv.map fun n => (n, st.env n)) ((h.ls ++ h.lr).map fun n => (n, st.seg n))
theorem pickAV_keep (f : Nat → AV) (n : Nat) : ∀ l : List Nat, pickAV (l.map fun n => (n, f n)) n = f n ∨ pickAV (l.map fun n => (n, f n)) n = .undef
  | [] => .inr rfl
  | m :: l => by
    simp only [List.map_cons, pickAV]
    cases h : Nat.beq n m with
    | true => exact .inl (by rw [Nat.eq_of_beq_eq_true h]; rfl)
    | false => exact pickAV_keep f n l
theorem pickOb_keep (f : Nat → Option Ob) (n : Nat) : ∀ l : List Nat, pickOb (l.map fun n => (n, f n)) n = f n ∨ pickOb (l.map fun n => (n, f n)) n = none
  | [] => .inr rfl
  | m :: l => by
    simp only [List.map_cons, pickOb]
    cases h : Nat.beq n m with
    | true => exact .inl (by rw [Nat.eq_of_beq_eq_true h]; rfl)
    | false => exact pickOb_keep f n l
theorem St.keep_env (st : St) (h : Hint) (n : Nat) : (st.keep h).env n = st.env n ∨ (st.keep h).env n = .undef := pickAV_keep st.env n h.lv
theorem St.keep_seg (st : St) (h : Hint) (n : Nat) : (st.keep h).seg n = st.seg n ∨ (st.keep h).seg n = none := pickOb_keep st.seg n (h.ls ++ h.lr)
def St.keepO (st : St) : Option Hint → St
  | none => st
  | some h => st.keep h

/-! ### pure operations -/
def intBin (op : BinOp) (k : IntKind) (x y : Int) : Option DV :=
  match op with
  | .add => some (.int k (k.wrap (x + y)))
  | .sub => some (.int k (k.wrap (x - y)))
  | .mul => some (.int k (k.wrap (x * y)))
  | .quo => if y = 0 then none else some (.int k (k.wrap (x.tdiv y)))
  | .rem => if y = 0 then none else some (.int k (x.tmod y))
  | .and => some (.int k (k.wrap (BitVec.ofInt k.bits x &&& BitVec.ofInt k.bits y).toNat))
  | .or => some (.int k (k.wrap (BitVec.ofInt k.bits x ||| BitVec.ofInt k.bits y).toNat))
  | .xor => some (.int k (k.wrap (BitVec.ofInt k.bits x ^^^ BitVec.ofInt k.bits y).toNat))
  | .eql => some (.bool (x == y))
  | .neq => some (.bool (x != y))
  | .lss => some (.bool (decide (x < y)))
  | .leq => some (.bool (decide (x ≤ y)))
  | .gtr => some (.bool (decide (x > y)))
  | .geq => some (.bool (decide (x ≥ y)))
  | _ => none
def aBin (op : BinOp) : AV → AV → Option AV
  | .d (.int k x), .d (.int k' y) => if k = k' then (intBin op k x y).map .d else none
  | _, _ => none
def aEqb (neg : Bool) : AV → AV → Option AV
  | .d (.bool x), .d (.bool y) => some (.d (.bool (cond neg (!(x == y)) (x == y))))
  | _, _ => none
def intShift (op : BinOp) (k : IntKind) (x y : Int) : Option DV :=
  if y < 0 then none else
  match op with
  | .shl => some (.int k (k.wrap (x * 2 ^ (min y.toNat k.bits))))
  | .shr => some (.int k (x.fdiv (2 ^ (min y.toNat k.bits))))
  | _ => none
def aShift (op : BinOp) : AV → AV → Option AV
  | .d (.int k x), .d (.int _ y) => (intShift op k x y).map .d
  | _, _ => none
def aUn (op : UnOp) : AV → Option AV
  | .d (.int k n) =>
    match op with
    | .neg => some (.d (.int k (k.wrap (0 - n))))
    | _ => none
  | .d (.bool b) =>
    match op with
    | .not => some (.d (.bool !b))
    | _ => none
  | _ => none
def aConv (k : IntKind) : AV → Option AV
  | .d (.int _ n) => some (.d (.int k (k.wrap n)))
  | _ => none
/-- cells that are numbers: are two rows of them the same? -/
def cellsEq : List AV → List AV → Option Bool
  | [], [] => some true
  | .d (.int k x) :: l, .d (.int k' y) :: m => if k = k' then (cellsEq l m).map ((x == y) && ·) else none
  | _, _ => none
def AV.aggCells : AV → Option (List AV)
  | .d (.agg cs) => some (cs.map .d)
  | .agg cs => some cs
  | _ => none
def aEqs (neg : Bool) (n : Nat) (x y : AV) : Option AV :=
  match x.aggCells, y.aggCells with
  | some xs, some ys => if xs.length = n ∧ ys.length = n then (cellsEq xs ys).map fun b => .d (.bool (cond neg (!b) b)) else none
  | _, _ => none
def aNil (neg : Bool) : AV → Option AV
  | .d .nilsl => some (.d (.bool (!neg)))
  | .d (.sl _ _ _) => some (.d (.bool neg))
  | .aref _ _ _ _ => some (.d (.bool neg))
  | _ => none
def aLen : AV → Option AV
  | .d .nilsl => some (.d (.int .i64 0))
  | .d (.sl _ _ es) => some (.d (.int .i64 es.length))
  | .d (.sla _ _ es) => some (.d (.int .i64 es.length))
  | .aref _ _ _ n => some (.d (.int .i64 n))
  | _ => none
def aFaddr (off : Nat) : AV → Option AV
  | .d (.rptr e o) => some (.d (.rptr e (o + off)))
  | .ptr s sz i o => some (.ptr s sz i (o + off))
  | _ => none
def aIaddr (sz : Nat) : AV → AV → Option AV
  | .d (.sl _ sz' es), .d (.int _ i) =>
    if sz = sz' ∧ 0 ≤ i then (es[i.toNat]?).map fun e => .d (.rptr e 0) else none
  | .d (.sla _ sz' es), .d (.int _ i) =>
    if sz = sz' ∧ 0 ≤ i then (es[i.toNat]?).map fun e => .d (.rptr e 0) else none
  | .aref s sz' off n, .d (.int _ i) =>
    if sz = sz' ∧ 0 ≤ i ∧ i < n then some (.ptr s sz (off + i.toNat) 0) else none
  | _, _ => none
def aExt (i : Nat) : AV → Option AV
  | .tuple vs => vs[i]?
  | .d (.tuple vs) => (vs[i]?).map .d
  | _ => none
/-- cells of memory, as a value -/
def valD (agg : Bool) (sz off : Nat) (e : List DV) : Option AV :=
  if agg then (if off + sz ≤ e.length then some (.d (.agg ((e.drop off).take sz))) else none) else (e[off]?).map .d
def valA (agg : Bool) (sz off : Nat) (e : List AV) : Option AV :=
  if agg then (if off + sz ≤ e.length then some (.agg ((e.drop off).take sz)) else none) else e[off]?
def aLoad (st : St) (agg : Bool) (sz : Nat) : AV → Option AV
  | .d (.rptr e off) => valD agg sz off e
  | .ptr s sz' i off =>
    match st.seg s with
    | some (.dat _ sz'' es) => if sz' = sz'' then (es[i]?).bind (valD agg sz off) else none
    | some (.mix _ sz'' es) => if sz' = sz'' then (es[i]?).bind (valA agg sz off) else none
    | none => none
  | _ => none
/-- a row with other cells from a place on -/
def splice {α : Type} (e : List α) (off : Nat) (cs : List α) : List α := e.take off ++ cs ++ e.drop (off + cs.length)
def aStore (st : St) (sz : Nat) (a x : AV) : Option St :=
  match a with
  | .ptr s sz' i off =>
    let cs := x.cells
    if cs.length = sz ∧ cs.all AV.one then
      match st.seg s with
      | some (.dat el sz'' es) =>
        if sz' = sz'' then
          match es[i]? with
          | some e =>
            if off + sz ≤ e.length then
              match datL cs with
              | some ds => some (st.upd s (.dat el sz'' (es.set i (splice e off ds))))
              | none => some (st.upd s (.mix el sz'' ((es.map (·.map AV.d)).set i (splice (e.map AV.d) off cs))))
            else none
          | none => none
        else none
      | some (.mix el sz'' es) =>
        if sz' = sz'' then
          match es[i]? with
          | some e => if off + sz ≤ e.length then some (st.upd s (.mix el sz'' (es.set i (splice e off cs)))) else none
          | none => none
        else none
      | none => none
    else none
  | _ => none
/-- the parts of a struct, laid over zeros -/
def aFill (st : St) (cells : List AV) : List (Nat × Nat × AX) → Option (List AV)
  | [] => some cells
  | (off, size, x) :: l =>
    let cs := (x.ev st).cells
    if cs.length = size ∧ off + size ≤ cells.length ∧ cs.all AV.one then aFill st (splice cells off cs) l else none
def packA (cs : List AV) : AV := match datL cs with | some ds => .d (.agg ds) | none => .agg cs
def intMax : List AV → Option AV
  | [] => none
  | v :: l => l.foldl (fun a b => match a, b with
    | some (.d (.int k x)), .d (.int k' y) => if k = k' then some (.d (.int k (if y > x then y else x))) else none
    | _, _ => none) (some v)
def intMin : List AV → Option AV
  | [] => none
  | v :: l => l.foldl (fun a b => match a, b with
    | some (.d (.int k x)), .d (.int k' y) => if k = k' then some (.d (.int k (if y < x then y else x))) else none
    | _, _ => none) (some v)
def optInt (st : St) : Option AX → Option (Option Int)
  | none => some none
  | some x => match x.ev st with | .d (.int _ n) => some (some n) | _ => none
def aSlice (st : St) (sz : Nat) (x : AV) (lo hi mx : Option AX) : Option AV :=
  match optInt st lo, optInt st hi, optInt st mx with
  | some lo, some hi, some mx =>
    let l := lo.getD 0
    match x with
    | .d .nilsl =>
      if l = 0 ∧ hi.getD 0 = 0 ∧ mx.getD 0 = 0 ∧ (mx.isSome → hi.isSome) then some (.d .nilsl) else none
    | .d (.sl k sz' es) =>
      let h := hi.getD es.length
      if sz = sz' ∧ 0 ≤ l ∧ l ≤ h ∧ h ≤ es.length then
        match mx with
        | none => some (.d (.sl (if h = es.length ∧ k = .tight then .tight else .ro) sz ((es.take h.toNat).drop l.toNat)))
        | some m => if hi.isSome ∧ m = h then some (.d (.sl .tight sz ((es.take h.toNat).drop l.toNat))) else none
      else none
    | .d (.sla _ sz' es) =>
      let h := hi.getD es.length
      if sz = sz' ∧ 0 ≤ l ∧ l ≤ h ∧ h ≤ es.length then
        match mx with
        | none => some (.d (.sla false sz ((es.take h.toNat).drop l.toNat)))
        | some m => if hi.isSome ∧ m = h then some (.d (.sla true sz ((es.take h.toNat).drop l.toNat))) else none
      else none
    | .aref s sz' off n =>
      let h := hi.getD n
      if sz = sz' ∧ 0 ≤ l ∧ l ≤ h ∧ h ≤ n ∧ mx = none then some (.aref s sz (off + l.toNat) (h - l).toNat) else none
    | _ => none
  | _, _, _ => none

/-- is data of the kind that a type's zero is of? -/
def DV.isK (z : DV) (c : DV) : Bool :=
  match z, c with
  | .int q _, .int q' _ => decide (q' = q)
  | .int _ _, _ => false
  | .bool _, .bool _ => true
  | .bool _, _ => false
  | .nilsl, .sla _ _ _ => true
  | .nilsl, _ => false
  | _, _ => true
def kindsOk : List DV → List DV → Bool
  | z :: zs, c :: cs => z.isK c && kindsOk zs cs
  | _, _ => true
def okRow (z e : List DV) : Bool := Nat.beq e.length z.length && kindsOk z e
def DV.toI : DV → Int
  | .int _ n => n
  | _ => 0
def DV.toB : DV → Bool
  | .bool b => b
  | _ => false
def DV.slT : DV → Bool
  | .sla k _ _ => k
  | _ => false
def DV.slZ : DV → Nat
  | .sla _ sz _ => sz
  | _ => 0
def DV.slR : DV → List (List DV)
  | .sla _ _ es => es
  | _ => []
def castTo (z c : DV) : DV :=
  match z with
  | .int q _ => .int q c.toI
  | .bool _ => .bool c.toB
  | .nilsl => .sla c.slT c.slZ c.slR
  | _ => c
/-- the same of what is loaded: a slice is taken as it is -/
def DV.isV (z : DV) (c : DV) : Bool :=
  match z with
  | .nilsl => true
  | z => z.isK c
def kindsV : List DV → List DV → Bool
  | z :: zs, c :: cs => z.isV c && kindsV zs cs
  | _, _ => true
def okRowV (z e : List DV) : Bool := Nat.beq e.length z.length && kindsV z e
def castV (z c : DV) : DV :=
  match z with
  | .nilsl => c
  | z => castTo z c
/-- a row's cell -/
def cellA (e : List DV) (i : Nat) : DV := (e.drop i).headD .nilptr
def rowAt : List DV → List DV → Nat → List DV
  | [], _, _ => []
  | z :: zs, e, i => castTo z (cellA e i) :: rowAt zs e (i + 1)
def rowOf (z e : List DV) : List DV := rowAt z e 0
theorem castTo_eq {z c : DV} (h : z.isK c = true) : castTo z c = c := by
  cases z <;> first
    | rfl
    | (cases c <;> simp_all [DV.isK, castTo, DV.toI, DV.toB, DV.slT, DV.slZ, DV.slR])
theorem castV_eq {z c : DV} (h : z.isV c = true) : castV z c = c := by
  cases z <;> first
    | rfl
    | exact castTo_eq h
def rowAtV : List DV → List DV → Nat → List DV
  | [], _, _ => []
  | z :: zs, e, i => castV z (cellA e i) :: rowAtV zs e (i + 1)
def rowOfV (z e : List DV) : List DV := rowAtV z e 0
theorem rowAtV_eq : ∀ {z e : List DV} {i : Nat}, okRowV z (e.drop i) = true → rowAtV z e i = e.drop i
  | [], e, i, h => by
    cases hd : e.drop i with
    | nil => rfl
    | cons c l => simp [hd, okRowV] at h
  | z :: zs, e, i, h => by
    cases hd : e.drop i with
    | nil => simp [hd, okRowV] at h
    | cons c l =>
      have hl : e.drop (i + 1) = l := by
        rw [show i + 1 = 1 + i by omega, Nat.add_comm, ← List.drop_drop, hd]
        rfl
      simp only [hd, okRowV, List.length_cons, kindsV, Bool.and_eq_true, Nat.beq_eq_true_eq, Nat.add_right_cancel_iff] at h
      simp only [rowAtV, cellA, hd, List.headD_cons, castV_eq h.2.1]
      rw [rowAtV_eq (z := zs) (e := e) (i := i + 1), hl]
      rw [hl]
      simp only [okRowV, Bool.and_eq_true, Nat.beq_eq_true_eq]
      exact ⟨h.1, h.2.2⟩
theorem rowOfV_eq {z e : List DV} (h : okRowV z e = true) : rowOfV z e = e := rowAtV_eq (i := 0) h
theorem rowAt_eq : ∀ {z e : List DV} {i : Nat}, okRow z (e.drop i) = true → rowAt z e i = e.drop i
  | [], e, i, h => by
    cases hd : e.drop i with
    | nil => rfl
    | cons c l => simp [hd, okRow] at h
  | z :: zs, e, i, h => by
    cases hd : e.drop i with
    | nil => simp [hd, okRow] at h
    | cons c l =>
      have hl : e.drop (i + 1) = l := by
        rw [show i + 1 = 1 + i by omega, Nat.add_comm, ← List.drop_drop, hd]
        rfl
      simp only [hd, okRow, List.length_cons, kindsOk, Bool.and_eq_true, Nat.beq_eq_true_eq, Nat.add_right_cancel_iff] at h
      simp only [rowAt, cellA, hd, List.headD_cons, castTo_eq h.2.1]
      rw [rowAt_eq (z := zs) (e := e) (i := i + 1), hl]
      rw [hl]
      simp only [okRow, Bool.and_eq_true, Nat.beq_eq_true_eq]
      exact ⟨h.1, h.2.2⟩
theorem rowOf_eq {z e : List DV} (h : okRow z e = true) : rowOf z e = e := rowAt_eq (i := 0) h
/-- a pointer to a row, if the row is of the kindsOk of the type's zero -/
def chkR (z : List DV) (v : AV) : Option AV :=
  match v with
  | .d (.rptr e off) => if okRow z e then some (.d (.rptr e off)) else none
  | v => some v
theorem chkR_eq {z : List DV} {v v' : AV} (h : chkR z v = some v') : v' = v := by
  unfold chkR at h
  split at h
  · split at h <;> cases h
    rfl
  · cases h
    rfl
/-- what was read, if it is of the kind of the type's zero -/
def chk (agg : Bool) (z : List DV) (v : AV) : Option AV :=
  match agg, v with
  | true, .d (.agg cs) => if okRowV z cs then some v else none
  | false, .d c => if kindsV z [c] then some v else none
  | _, v => some v
theorem chk_eq {agg : Bool} {z : List DV} {v v' : AV} (h : chk agg z v = some v') : v' = v := by
  unfold chk at h
  split at h
  · split at h <;> cases h
    rfl
  · split at h <;> cases h
    rfl
  · cases h
    rfl

/-- the value of an operation that changes nothing -/
def aVal (st : St) : AOp → Option AV
  | .mv x => some (x.ev st)
  | .pick c a b =>
    match c with
    | .t t =>
      match st.env t with
      | .d (.bool cb) =>
        match a.ev (st.under t true), b.ev (st.under t false) with
        | .d (.bool x), .d (.bool y) => some (.d (.bool (cond cb x y)))
        | .d (.int k x), .d (.int k' y) => if k = k' then some (.d (.int k (cond cb x y))) else none
        | x, y => some (if cb then x else y)
      | _ => none
    | _ => none
  | .build z parts => (aFill st (z.map .d) parts).map packA
  | .load agg sz x z => (aLoad st agg sz (x.ev st)).bind (chk agg z)
  | .bin op x y => aBin op (x.ev st) (y.ev st)
  | .eqb neg x y => aEqb neg (x.ev st) (y.ev st)
  | .eqs neg n x y => aEqs neg n (x.ev st) (y.ev st)
  | .shf op x y => aShift op (x.ev st) (y.ev st)
  | .un op x => aUn op (x.ev st)
  | .conv k x => aConv k (x.ev st)
  | .faddr off x => aFaddr off (x.ev st)
  | .iaddr sz x i z => (aIaddr sz (x.ev st) (i.ev st)).bind (chkR z)
  | .slice sz x lo hi mx => aSlice st sz (x.ev st) lo hi mx
  | .ext x i => aExt i (x.ev st)
  | .len x => aLen (x.ev st)
  | .mx xs => intMax (xs.map (·.ev st))
  | .mn xs => intMin (xs.map (·.ev st))
  | .eqnil neg x => aNil neg (x.ev st)
  | .mkfn f caps => some (match datL (caps.map (·.ev st)) with | some ds => .d (.func f ds) | none => .func f (caps.map (·.ev st)))
  | _ => none

/-! ### snapshots -/
/-- a cell of a row is read as a slice, or none -/
def cellS : DV → DV
  | .sl _ sz es => .sla false sz es
  | x => x
def snapCell (st : St) : Nat → AV → Option DV
  | _, .d x => some x
  | 0, _ => none
  | n + 1, .aref s sz off len =>
    match st.seg s with
    | some (.dat _ sz' es) => if sz = sz' ∧ off + len ≤ es.length then some (.sl .ro sz ((es.drop off).take len)) else none
    | some (.mix _ sz' es) =>
      if sz = sz' ∧ off + len ≤ es.length then (((es.drop off).take len).mapM fun e => List.mapM (fun c => (snapCell st n c).map cellS) e).map (.sl .ro sz) else none
    | none => none
  | n + 1, .ptr s sz i off =>
    match st.seg s with
    | some (.dat _ sz' es) => if sz = sz' then (es[i]?).map fun e => .rptr e off else none
    | some (.mix _ sz' es) => if sz = sz' then (es[i]?).bind fun e => (List.mapM (fun c => (snapCell st n c).map cellS) e).map fun e => .rptr e off else none
    | none => none
  | n + 1, .func f cs => (cs.mapM (snapCell st n)).map (.func f)
  | n + 1, .agg cs => (cs.mapM (snapCell st n)).map .agg
  | n + 1, .tuple cs => (cs.mapM (snapCell st n)).map .tuple
  | _ + 1, .w _ _ _ => none
  | _ + 1, .undef => none
def snap (st : St) (v : AV) : Option DV := snapCell st 6 v
def St.freeze (st : St) : St := { env := fun n => match snap st (st.env n) with | some x => .d x | none => .undef, seg := fun _ => none }

end Go.Proofs.Ytjejjokdbbedlaa.Vm
