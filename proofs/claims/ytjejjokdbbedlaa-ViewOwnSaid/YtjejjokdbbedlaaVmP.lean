/- The pure machine's runs told by what is done with their end: the same runs, whose branches over open data stand in front. No condition. -/
import Derived.Test.YtjejjokdbbedlaaVmB
namespace Go.Proofs.Ytjejjokdbbedlaa.Vm
open Go Go.RowKit
set_option linter.unusedVariables false
set_option linter.unusedSimpArgs false

/-- a lookup, ahead of what is done with it -/
def lookK {α : Type} (o : Option α) (k : α → Option DV) : Option DV :=
  match o with
  | some x => k x
  | none => none
theorem lookK_eq {α : Type} (o : Option α) (k : α → Option DV) : lookK o k = o.bind k := by cases o <;> rfl
@[simp] theorem lookK_some {α : Type} (x : α) (k : α → Option DV) : lookK (some x) k = k x := rfl
@[simp] theorem lookK_none {α : Type} (k : α → Option DV) : lookK none k = none := rfl

/-! ### values, brought to their constructors ahead of what follows -/
def fvK (v : AV) (k : AV → Option DV) : Option DV :=
  match v with
  | .d x => k (.d x)
  | .aref s sz off len => k (.aref s sz off len)
  | .ptr s sz i off => k (.ptr s sz i off)
  | .func f c => k (.func f c)
  | .agg c => k (.agg c)
  | .tuple c => k (.tuple c)
  | .w t want v => k (.w t want v)
  | .undef => k .undef
theorem fvK_eq (v : AV) (k : AV → Option DV) : fvK v k = k v := by cases v <;> rfl
def fdK (x : DV) (k : DV → Option DV) : Option DV :=
  match x with
  | .int q n => k (.int q n)
  | .bool b => k (.bool b)
  | .nilsl => k .nilsl
  | .sl q sz es => k (.sl q sz es)
  | .sla q sz es => k (.sla q sz es)
  | .rptr e off => k (.rptr e off)
  | .nilptr => k .nilptr
  | .func f c => k (.func f c)
  | .nilfunc => k .nilfunc
  | .agg c => k (.agg c)
  | .tuple c => k (.tuple c)
  | .mv el sz es => k (.mv el sz es)
theorem fdK_eq (x : DV) (k : DV → Option DV) : fdK x k = k x := by cases x <;> rfl
def fdvK (v : AV) (k : AV → Option DV) : Option DV :=
  match v with
  | .d x => fdK x fun x => k (.d x)
  | v => fvK v k
theorem fdvK_eq (v : AV) (k : AV → Option DV) : fdvK v k = k v := by
  cases v <;> first
    | rfl
    | simp only [fdvK, fdK_eq]
/-- a list of known length, cell by cell -/
def flK {α : Type} (l : List α) (k : List α → Option DV) : Option DV :=
  match l with
  | [] => k []
  | x :: l => flK l fun l => k (x :: l)
theorem flK_eq {α : Type} : ∀ (l : List α) (k : List α → Option DV), flK l k = k l
  | [], _ => rfl
  | x :: l, k => flK_eq l _
def faK (v : AV) (k : AV → Option DV) : Option DV :=
  match v with
  | .d (.agg cs) => flK cs fun cs => k (.d (.agg cs))
  | .agg cs => flK cs fun cs => k (.agg cs)
  | v => k v
theorem faK_eq (v : AV) (k : AV → Option DV) : faK v k = k v := by
  cases v with
  | d x => cases x <;> first | exact flK_eq _ _ | rfl
  | agg cs => exact flK_eq _ _
  | _ => rfl
def fenvK (f : Nat → AV) : List Nat → (List (Nat × AV) → Option DV) → Option DV
  | [], k => k []
  | n :: l, k => fvK (f n) fun v => fenvK f l fun vs => k ((n, v) :: vs)
theorem fenvK_eq (f : Nat → AV) : ∀ (l : List Nat) (k : List (Nat × AV) → Option DV), fenvK f l k = k (l.map fun n => (n, f n))
  | [], _ => rfl
  | n :: l, k => by
    simp only [fenvK, fvK_eq, fenvK_eq f l, List.map_cons]
def foK (o : Option Ob) (k : Option Ob → Option DV) : Option DV :=
  match o with
  | some (.dat el sz es) => k (some (.dat el sz es))
  | some (.mix el sz es) => k (some (.mix el sz es))
  | none => k none
theorem foK_eq (o : Option Ob) (k : Option Ob → Option DV) : foK o k = k o := by
  cases o with
  | none => rfl
  | some o => cases o <;> rfl
def flsK {α : Type} (l : List (List α)) (k : List (List α) → Option DV) : Option DV :=
  match l with
  | [] => k []
  | x :: l => flK x fun x => flsK l fun l => k (x :: l)
theorem flsK_eq {α : Type} : ∀ (l : List (List α)) (k : List (List α) → Option DV), flsK l k = k l
  | [], _ => rfl
  | x :: l, k => by simp only [flsK, flK_eq, flsK_eq l]
def flvK (l : List AV) (k : List AV → Option DV) : Option DV :=
  match l with
  | [] => k []
  | x :: l => fvK x fun x => flvK l fun l => k (x :: l)
theorem flvK_eq : ∀ (l : List AV) (k : List AV → Option DV), flvK l k = k l
  | [], _ => rfl
  | x :: l, k => by simp only [flvK, fvK_eq, flvK_eq l]
def flvsK (l : List (List AV)) (k : List (List AV) → Option DV) : Option DV :=
  match l with
  | [] => k []
  | x :: l => flvK x fun x => flvsK l fun l => k (x :: l)
theorem flvsK_eq : ∀ (l : List (List AV)) (k : List (List AV) → Option DV), flvsK l k = k l
  | [], _ => rfl
  | x :: l, k => by simp only [flvsK, flvK_eq, flvsK_eq l]
def forK (o : Option Ob) (k : Option Ob → Option DV) : Option DV :=
  match o with
  | some (.dat el sz es) => flsK es fun es => k (some (.dat el sz es))
  | some (.mix el sz es) => flvsK es fun es => k (some (.mix el sz es))
  | none => k none
theorem forK_eq (o : Option Ob) (k : Option Ob → Option DV) : forK o k = k o := by
  cases o with
  | none => rfl
  | some o =>
    cases o
    · exact flsK_eq _ _
    · exact flvsK_eq _ _
def fsegK (g : Option Ob → (Option Ob → Option DV) → Option DV) (f : Nat → Option Ob) : List Nat → (List (Nat × Option Ob) → Option DV) → Option DV
  | [], k => k []
  | n :: l, k => g (f n) fun v => fsegK g f l fun vs => k ((n, v) :: vs)
theorem fsegK_eq {g : Option Ob → (Option Ob → Option DV) → Option DV} (hg : ∀ o k, g o k = k o) (f : Nat → Option Ob) : ∀ (l : List Nat) (k : List (Nat × Option Ob) → Option DV), fsegK g f l k = k (l.map fun n => (n, f n))
  | [], _ => rfl
  | n :: l, k => by
    simp only [fsegK, hg, fsegK_eq hg f l, List.map_cons]
def appK {α : Type} (a b : List α) (k : List α → Option DV) : Option DV :=
  match a with
  | [] => k b
  | x :: a => appK a b fun l => k (x :: l)
theorem appK_eq {α : Type} (b : List α) : ∀ (a : List α) (k : List α → Option DV), appK a b k = k (a ++ b)
  | [], _ => rfl
  | x :: a, k => appK_eq b a _
def keepK (st : St) (h : Hint) (k : St → Option DV) : Option DV :=
  fenvK st.env h.lv fun vs => fsegK foK st.seg h.ls fun os => fsegK forK st.seg h.lr fun os' => appK os os' fun os => k (St.of vs os)
theorem keepK_eq (st : St) (h : Hint) (k : St → Option DV) : keepK st h k = k (st.keep h) := by
  simp only [keepK, fenvK_eq, fsegK_eq foK_eq, fsegK_eq forK_eq, appK_eq, St.keep, List.map_append]
def keepOK (st : St) (h : Option Hint) (k : St → Option DV) : Option DV :=
  match h with
  | none => k st
  | some h => keepK st h k
theorem keepOK_eq (st : St) (h : Option Hint) (k : St → Option DV) : keepOK st h k = k (st.keepO h) := by
  cases h with
  | none => rfl
  | some h => exact keepK_eq _ _ _

def iaddrK (sz : Nat) (x i : AV) (k : AV → Option DV) : Option DV :=
  match x, i with
  | .d (.sl _ sz' es), .d (.int _ n) =>
    if sz = sz' then cond (decide (0 ≤ n)) (lookK es[n.toNat]? fun e => k (.d (.rptr e 0))) none else none
  | .d (.sla _ sz' es), .d (.int _ n) =>
    cond (decide (sz = sz')) (cond (decide (0 ≤ n)) (lookK es[n.toNat]? fun e => k (.d (.rptr e 0))) none) none
  | .aref s sz' off len, .d (.int _ n) =>
    if sz = sz' then cond (decide (0 ≤ n)) (cond (decide (n < len)) (k (.ptr s sz (off + n.toNat) 0)) none) none else none
  | _, _ => none
theorem iaddrK_eq (sz : Nat) (x i : AV) (k : AV → Option DV) : iaddrK sz x i k = (aIaddr sz x i).bind k := by
  cases x with
  | d x =>
    cases x with
    | sl q sz' es =>
      cases i with
      | d y =>
        cases y with
        | int q n =>
          simp only [iaddrK, aIaddr]
          by_cases h : sz = sz'
          · by_cases h2 : 0 ≤ n
            · simp only [h, h2, decide_true, cond_true, lookK_eq, if_true, and_self]
              cases es[n.toNat]? <;> rfl
            · simp [h, h2]
          · simp [h]
        | _ => rfl
      | _ => rfl
    | sla q sz' es =>
      cases i with
      | d y =>
        cases y with
        | int q n =>
          simp only [iaddrK, aIaddr]
          by_cases h : sz = sz'
          · by_cases h2 : 0 ≤ n
            · simp only [h, h2, decide_true, cond_true, lookK_eq, if_true, and_self]
              cases es[n.toNat]? <;> rfl
            · simp [h, h2]
          · simp [h]
        | _ => rfl
      | _ => rfl
    | _ => rfl
  | aref s sz' off len =>
    cases i with
    | d y =>
      cases y with
      | int q n =>
        simp only [iaddrK, aIaddr]
        by_cases h : sz = sz'
        · by_cases h2 : 0 ≤ n
          · by_cases h3 : n < len
            · simp [h, h2, h3]
            · simp [h, h2, h3]
          · simp [h, h2]
        · simp [h]
      | _ => rfl
    | _ => rfl
  | _ => rfl

def rowK (z : List DV) (v : AV) (k : AV → Option DV) : Option DV :=
  match v with
  | .d (.rptr e off) => cond (okRow z e) (k (.d (.rptr (rowOf z e) off))) none
  | v => k v
theorem rowK_eq (z : List DV) (v : AV) (k : AV → Option DV) : rowK z v k = (chkR z v).bind k := by
  cases v with
  | d x =>
    cases x with
    | rptr e off =>
      simp only [rowK, chkR]
      cases h : okRow z e with
      | true => simp [rowOf_eq h]
      | false => simp
    | _ => rfl
  | _ => rfl
def chkK (agg : Bool) (z : List DV) (v : AV) (k : AV → Option DV) : Option DV :=
  match agg, v with
  | true, .d (.agg cs) => cond (okRowV z cs) (k (.d (.agg (rowOfV z cs)))) none
  | false, .d c =>
    (match z with
     | [.int q n] => cond ((DV.int q n).isK c) (k (.d (.int q c.toI))) none
     | [.bool b] => cond ((DV.bool b).isK c) (k (.d (.bool c.toB))) none
     | z => cond (kindsV z [c]) (k (.d c)) none)
  | _, v => k v
theorem chkK_eq (agg : Bool) (z : List DV) (v : AV) (k : AV → Option DV) : chkK agg z v k = (chk agg z v).bind k := by
  cases agg with
  | true =>
    cases v with
    | d x =>
      cases x with
      | agg cs =>
        simp only [chkK, chk]
        cases h : okRowV z cs with
        | true => simp [rowOfV_eq h]
        | false => simp
      | _ => rfl
    | _ => rfl
  | false =>
    cases v with
    | d c =>
      have other : cond (kindsV z [c]) (k (.d c)) none = (chk false z (.d c)).bind k := by
        simp only [chk]
        cases kindsV z [c] <;> simp
      have kk : ∀ z0 : DV, kindsV [z0] [c] = z0.isV c := fun z0 => by simp [kindsV]
      match z with
      | [] => exact other
      | [.int q n] =>
        simp only [chkK, chk, kk, DV.isV]
        cases h : (DV.int q n).isK c with
        | true =>
          have := castTo_eq h
          simp only [castTo] at this
          simp [this]
        | false => simp
      | [.bool b] =>
        simp only [chkK, chk, kk, DV.isV]
        cases h : (DV.bool b).isK c with
        | true =>
          have := castTo_eq h
          simp only [castTo] at this
          simp [this]
        | false => simp
      | [.nilsl] => exact other
      | [.sl _ _ _] => exact other
      | [.sla _ _ _] => exact other
      | [.rptr _ _] => exact other
      | [.nilptr] => exact other
      | [.func _ _] => exact other
      | [.nilfunc] => exact other
      | [.agg _] => exact other
      | [.tuple _] => exact other
      | [.mv _ _ _] => exact other
      | .int _ _ :: _ :: _ => exact other
      | .bool _ :: _ :: _ => exact other
      | .nilsl :: _ :: _ => exact other
      | .sl _ _ _ :: _ :: _ => exact other
      | .sla _ _ _ :: _ :: _ => exact other
      | .rptr _ _ :: _ :: _ => exact other
      | .nilptr :: _ :: _ => exact other
      | .func _ _ :: _ :: _ => exact other
      | .nilfunc :: _ :: _ => exact other
      | .agg _ :: _ :: _ => exact other
      | .tuple _ :: _ :: _ => exact other
      | .mv _ _ _ :: _ :: _ => exact other
    | _ => rfl
def valDK (agg : Bool) (sz off : Nat) (e : List DV) (k : AV → Option DV) : Option DV :=
  cond agg (cond (decide (off + sz ≤ e.length)) (k (.d (.agg ((e.drop off).take sz)))) none) (lookK e[off]? fun c => k (.d c))
theorem valDK_eq (agg : Bool) (sz off : Nat) (e : List DV) (k : AV → Option DV) : valDK agg sz off e k = (valD agg sz off e).bind k := by
  unfold valDK valD
  cases agg
  · simp only [cond_false, lookK_eq, Bool.false_eq_true, if_false]
    cases e[off]? <;> rfl
  · by_cases h : off + sz ≤ e.length <;> simp [h]
def valAK (agg : Bool) (sz off : Nat) (e : List AV) (k : AV → Option DV) : Option DV :=
  cond agg (cond (decide (off + sz ≤ e.length)) (k (.agg ((e.drop off).take sz))) none) (lookK e[off]? k)
theorem valAK_eq (agg : Bool) (sz off : Nat) (e : List AV) (k : AV → Option DV) : valAK agg sz off e k = (valA agg sz off e).bind k := by
  unfold valAK valA
  cases agg
  · simp only [cond_false, lookK_eq, Bool.false_eq_true, if_false]
  · by_cases h : off + sz ≤ e.length <;> simp [h]
/-- a row of an object of few rows -/
def pickRow (es : List (List AV)) (i : Nat) (k : List AV → Option DV) : Option DV :=
  match es with
  | [] => none
  | e :: l => cond (Nat.beq i 0) (k e) (pickRow l (i - 1) k)
theorem pickRow_eq : ∀ (es : List (List AV)) (i : Nat) (k : List AV → Option DV), pickRow es i k = (es[i]?).bind k
  | [], i, k => by simp [pickRow]
  | e :: l, 0, k => rfl
  | e :: l, i + 1, k => by
    simp only [pickRow, Nat.add_sub_cancel, List.getElem?_cons_succ]
    rw [show Nat.beq (i + 1) 0 = false from rfl]
    exact pickRow_eq l i k
def loadK (st : St) (agg : Bool) (sz : Nat) (x : AV) (k : AV → Option DV) : Option DV :=
  match x with
  | .d (.rptr e off) => valDK agg sz off e k
  | .ptr s sz' i off =>
    match st.seg s with
    | some (.dat _ sz'' es) => if sz' = sz'' then lookK es[i]? fun e => valDK agg sz off e k else none
    | some (.mix _ sz'' es) => if sz' = sz'' then pickRow es i fun e => valAK agg sz off e k else none
    | none => none
  | _ => none
theorem loadK_eq (st : St) (agg : Bool) (sz : Nat) (x : AV) (k : AV → Option DV) : loadK st agg sz x k = (aLoad st agg sz x).bind k := by
  cases x with
  | d x =>
    cases x with
    | rptr e off => exact valDK_eq _ _ _ _ _
    | _ => rfl
  | ptr s sz' i off =>
    simp only [loadK, aLoad]
    cases h : st.seg s with
    | none => rfl
    | some o =>
      cases o with
      | dat el sz'' es =>
        simp only
        split
        · simp only [lookK_eq, valDK_eq]
          cases es[i]? <;> rfl
        · rfl
      | mix el sz'' es =>
        simp only
        split
        · simp only [pickRow_eq, valAK_eq]
          cases es[i]? <;> rfl
        · rfl
  | _ => rfl

def binK (op : BinOp) (x y : AV) (k : AV → Option DV) : Option DV :=
  match x, y with
  | .d (.int q m), .d (.int q' n) =>
    if q = q' then
      match op with
      | .quo => cond (decide (n = 0)) none (k (.d (.int q (q.wrap (m.tdiv n)))))
      | .rem => cond (decide (n = 0)) none (k (.d (.int q (m.tmod n))))
      | op => lookK (intBin op q m n) fun v => k (.d v)
    else none
  | _, _ => none
theorem binK_eq (op : BinOp) (x y : AV) (k : AV → Option DV) : binK op x y k = (aBin op x y).bind k := by
  cases x with
  | d x =>
    cases x with
    | int q m =>
      cases y with
      | d y =>
        cases y with
        | int q' n =>
          simp only [binK, aBin]
          by_cases h : q = q'
          · rw [if_pos h, if_pos h]
            cases op <;> first
              | (by_cases h0 : n = 0 <;> simp [intBin, h0]; done)
              | (simp only [lookK_eq]; rfl)
              | (simp only [lookK_eq, intBin, Option.bind_some, Option.map_some])
          · rw [if_neg h, if_neg h]
            rfl
        | _ => rfl
      | _ => rfl
    | _ => rfl
  | _ => rfl
def shfK (op : BinOp) (x y : AV) (k : AV → Option DV) : Option DV :=
  match x, y with
  | .d (.int q m), .d (.int _ n) =>
    cond (decide (n < 0)) none (match op with
      | .shl => k (.d (.int q (q.wrap (m * 2 ^ (min n.toNat q.bits)))))
      | .shr => k (.d (.int q (m.fdiv (2 ^ (min n.toNat q.bits)))))
      | _ => none)
  | _, _ => none
theorem shfK_eq (op : BinOp) (x y : AV) (k : AV → Option DV) : shfK op x y k = (aShift op x y).bind k := by
  cases x with
  | d x =>
    cases x with
    | int q m =>
      cases y with
      | d y =>
        cases y with
        | int q' n =>
          simp only [shfK, aShift]
          by_cases h : n < 0
          · simp [intShift, h]
          · cases op <;> simp [intShift, h]
        | _ => rfl
      | _ => rfl
    | _ => rfl
  | _ => rfl
def pickK (st : St) (c a b : AX) (k : AV → Option DV) : Option DV :=
  match c with
  | .t t =>
    match st.env t with
    | .d (.bool cb) =>
      match a.ev (st.under t true), b.ev (st.under t false) with
      | .d (.bool x), .d (.bool y) => k (.d (.bool (cond cb x y)))
      | .d (.int q x), .d (.int q' y) => if q = q' then k (.d (.int q (cond cb x y))) else none
      | x, y => cond cb (k x) (k y)
    | _ => none
  | _ => none
theorem pickK_eq (st : St) (c a b : AX) (k : AV → Option DV) : pickK st c a b k = (aVal st (.pick c a b)).bind k := by
  cases c with
  | t t =>
    simp only [pickK, aVal]
    generalize st.env t = x
    cases x with
    | d x =>
      cases x with
      | bool cb =>
        simp only
        generalize a.ev (st.under t true) = p
        generalize b.ev (st.under t false) = q
        have other : cond cb (k p) (k q) = (some (if cb = true then p else q)).bind k := by cases cb <;> rfl
        cases p with
        | d p =>
          cases q with
          | d q => cases p <;> cases q <;> first | exact other | rfl | (simp only; split <;> rfl)
          | _ => cases p <;> exact other
        | _ => exact other
      | _ => rfl
    | _ => rfl
  | _ => rfl

def optK (st : St) (x : Option AX) (k : Option Int → Option DV) : Option DV :=
  match x with
  | none => k none
  | some x => match x.ev st with | .d (.int _ n) => k (some n) | _ => none
theorem optK_eq (st : St) (x : Option AX) (k : Option Int → Option DV) : optK st x k = (optInt st x).bind k := by
  cases x with
  | none => rfl
  | some x =>
    simp only [optK, optInt]
    generalize x.ev st = v
    cases v with
    | d v => cases v <;> rfl
    | _ => rfl
def sliceK1 (sz : Nat) (x : AV) (lo hi mx : Option Int) (k : AV → Option DV) : Option DV :=
  match x with
  | .d .nilsl => cond (decide (lo.getD 0 = 0 ∧ hi.getD 0 = 0 ∧ mx.getD 0 = 0 ∧ (mx.isSome → hi.isSome))) (k (.d .nilsl)) none
  | .d (.sl q sz' es) =>
    if sz = sz' then
      cond (decide (0 ≤ lo.getD 0)) (cond (decide (lo.getD 0 ≤ hi.getD es.length)) (cond (decide (hi.getD es.length ≤ es.length))
        (match mx with
         | none => cond (decide (hi.getD es.length = es.length ∧ q = .tight)) (k (.d (.sl .tight sz ((es.take (hi.getD es.length).toNat).drop (lo.getD 0).toNat)))) (k (.d (.sl .ro sz ((es.take (hi.getD es.length).toNat).drop (lo.getD 0).toNat))))
         | some m => cond (decide (hi.isSome ∧ m = hi.getD es.length)) (k (.d (.sl .tight sz ((es.take (hi.getD es.length).toNat).drop (lo.getD 0).toNat)))) none) none) none) none
    else none
  | .d (.sla q sz' es) =>
    if sz = sz' then
      cond (decide (0 ≤ lo.getD 0)) (cond (decide (lo.getD 0 ≤ hi.getD es.length)) (cond (decide (hi.getD es.length ≤ es.length))
        (match mx with
         | none => k (.d (.sla false sz ((es.take (hi.getD es.length).toNat).drop (lo.getD 0).toNat)))
         | some m => cond (decide (hi.isSome ∧ m = hi.getD es.length)) (k (.d (.sla true sz ((es.take (hi.getD es.length).toNat).drop (lo.getD 0).toNat)))) none) none) none) none
    else none
  | .aref s sz' off n =>
    if sz = sz' ∧ mx = none then
      cond (decide (0 ≤ lo.getD 0)) (cond (decide (lo.getD 0 ≤ hi.getD n)) (cond (decide (hi.getD n ≤ n))
        (k (.aref s sz (off + (lo.getD 0).toNat) (hi.getD n - lo.getD 0).toNat)) none) none) none
    else none
  | _ => none
def sliceK (st : St) (sz : Nat) (x : AV) (lo hi mx : Option AX) (k : AV → Option DV) : Option DV :=
  optK st lo fun lo => optK st hi fun hi => optK st mx fun mx => sliceK1 sz x lo hi mx k
theorem sliceK_eq (st : St) (sz : Nat) (x : AV) (lo hi mx : Option AX) (k : AV → Option DV) : sliceK st sz x lo hi mx k = (aSlice st sz x lo hi mx).bind k := by
  unfold sliceK aSlice
  simp only [optK_eq]
  cases optInt st lo with
  | none => rfl
  | some lo =>
    cases optInt st hi with
    | none => rfl
    | some hi =>
      cases optInt st mx with
      | none => rfl
      | some mx =>
        simp only [Option.bind_some]
        cases x with
        | d x =>
          cases x with
          | nilsl =>
            simp only [sliceK1]
            by_cases h : (lo.getD 0 = 0 ∧ hi.getD 0 = 0 ∧ mx.getD 0 = 0 ∧ (mx.isSome = true → hi.isSome = true))
            · rw [if_pos h, decide_eq_true h]; rfl
            · rw [if_neg h, decide_eq_false h]; rfl
          | sl q sz' es =>
            simp only [sliceK1]
            by_cases h1 : sz = sz'
            · by_cases h2 : 0 ≤ lo.getD 0
              · by_cases h3 : lo.getD 0 ≤ hi.getD es.length
                · by_cases h4 : hi.getD es.length ≤ es.length
                  · rw [if_pos h1, if_pos ⟨h1, h2, h3, h4⟩, decide_eq_true h2, decide_eq_true h3, decide_eq_true h4]
                    simp only [cond_true]
                    cases mx with
                    | none =>
                      simp only
                      by_cases h5 : hi.getD es.length = es.length ∧ q = .tight
                      · rw [decide_eq_true h5, if_pos h5]; rfl
                      · rw [decide_eq_false h5, if_neg h5]; rfl
                    | some m =>
                      simp only
                      by_cases h5 : hi.isSome = true ∧ m = hi.getD es.length
                      · rw [decide_eq_true h5, if_pos h5]; rfl
                      · rw [decide_eq_false h5, if_neg h5]; rfl
                  · rw [if_pos h1, if_neg fun h => h4 h.2.2.2, decide_eq_true h2, decide_eq_true h3, decide_eq_false h4]; rfl
                · rw [if_pos h1, if_neg fun h => h3 h.2.2.1, decide_eq_true h2, decide_eq_false h3]; rfl
              · rw [if_pos h1, if_neg fun h => h2 h.2.1, decide_eq_false h2]; rfl
            · rw [if_neg h1, if_neg fun h => h1 h.1]; rfl
          | sla q sz' es =>
            simp only [sliceK1]
            by_cases h1 : sz = sz'
            · by_cases h2 : 0 ≤ lo.getD 0
              · by_cases h3 : lo.getD 0 ≤ hi.getD es.length
                · by_cases h4 : hi.getD es.length ≤ es.length
                  · rw [if_pos h1, if_pos ⟨h1, h2, h3, h4⟩, decide_eq_true h2, decide_eq_true h3, decide_eq_true h4]
                    simp only [cond_true]
                    cases mx with
                    | none => rfl
                    | some m =>
                      simp only
                      by_cases h5 : hi.isSome = true ∧ m = hi.getD es.length
                      · rw [decide_eq_true h5, if_pos h5]; rfl
                      · rw [decide_eq_false h5, if_neg h5]; rfl
                  · rw [if_pos h1, if_neg fun h => h4 h.2.2.2, decide_eq_true h2, decide_eq_true h3, decide_eq_false h4]; rfl
                · rw [if_pos h1, if_neg fun h => h3 h.2.2.1, decide_eq_true h2, decide_eq_false h3]; rfl
              · rw [if_pos h1, if_neg fun h => h2 h.2.1, decide_eq_false h2]; rfl
            · rw [if_neg h1, if_neg fun h => h1 h.1]; rfl
          | _ => rfl
        | aref s sz' off n =>
          simp only [sliceK1]
          by_cases h1 : sz = sz' ∧ mx = none
          · by_cases h2 : 0 ≤ lo.getD 0
            · by_cases h3 : lo.getD 0 ≤ hi.getD n
              · by_cases h4 : hi.getD n ≤ n
                · rw [if_pos h1, if_pos ⟨h1.1, h2, h3, h4, h1.2⟩, decide_eq_true h2, decide_eq_true h3, decide_eq_true h4]; rfl
                · rw [if_pos h1, if_neg fun h => h4 h.2.2.2.1, decide_eq_true h2, decide_eq_true h3, decide_eq_false h4]; rfl
              · rw [if_pos h1, if_neg fun h => h3 h.2.2.1, decide_eq_true h2, decide_eq_false h3]; rfl
            · rw [if_pos h1, if_neg fun h => h2 h.2.1, decide_eq_false h2]; rfl
          · rw [if_neg h1, if_neg fun h => h1 ⟨h.1, h.2.2.2.2⟩]; rfl
        | _ => rfl

/-- the branch on a guard -/
def knowK (st : St) (t : Nat) (want : Bool) (kt kf : St → Option DV) : Option DV :=
  match st.env t with
  | .d (.bool b) => cond b (cond want (kt (st.know t true)) (kf (st.know t true))) (cond want (kf (st.know t false)) (kt (st.know t false)))
  | _ => none
def branchK (st : St) : Nat → Bool → List (Nat × Bool) → (St → Option DV) → (St → Option DV) → Option DV
  | t, want, [], kt, kf => knowK st t want kt kf
  | t, want, (t', want') :: up, kt, kf =>
    match st.env t with
    | .d _ => knowK st t want kt kf
    | .w t1 w1 _ => if t1 = t' ∧ w1 = want' then branchK st t' want' up (fun st1 => knowK st1 t want kt kf) kf else none
    | _ => none
theorem knowK_eq (st : St) (t : Nat) (want b : Bool) (kt kf : St → Option DV) (h : st.env t = .d (.bool b)) : knowK st t want kt kf = (if b == want then kt (st.know t b) else kf (st.know t b)) := by
  simp only [knowK, h]
  cases b <;> cases want <;> rfl
theorem knowK_none (st : St) (t : Nat) (want : Bool) (kt kf : St → Option DV) (h : ∀ b, st.env t ≠ .d (.bool b)) : knowK st t want kt kf = none := by
  unfold knowK
  split
  · rename_i b hb
    exact absurd hb (h b)
  · rfl
def endB (kt kf : St → Option DV) : Option (Bool × St) → Option DV
  | some (true, s) => kt s
  | some (false, s) => kf s
  | none => none
theorem branchK_eq (st : St) : ∀ (up : List (Nat × Bool)) (t : Nat) (want : Bool) (kt kf : St → Option DV), branchK st t want up kt kf = endB kt kf (st.branch t want up)
  | [], t, want, kt, kf => by
    simp only [branchK, St.branch]
    cases h : st.env t with
    | d x =>
      cases x with
      | bool b =>
        rw [knowK_eq st t want b kt kf h]
        simp only
        cases hb : (b == want) <;> rfl
      | _ => exact knowK_none _ _ _ _ _ fun b hb => by simp [h] at hb
    | _ => exact knowK_none _ _ _ _ _ fun b hb => by simp [h] at hb
  | (t', want') :: up, t, want, kt, kf => by
    simp only [branchK, St.branch]
    cases h : st.env t with
    | d x =>
      cases x with
      | bool b =>
        simp only
        rw [knowK_eq st t want b kt kf h]
        cases hb : (b == want) <;> rfl
      | _ => exact knowK_none _ _ _ _ _ fun b hb => by simp [h] at hb
    | w t1 w1 x =>
      simp only
      by_cases hc : t1 = t' ∧ w1 = want'
      · rw [if_pos hc, if_pos hc, branchK_eq st up]
        cases hb : st.branch t' want' up with
        | none => rfl
        | some r =>
          obtain ⟨r, st1⟩ := r
          cases r with
          | false => rfl
          | true =>
            simp only [endB]
            cases h1 : st1.env t with
            | d x =>
              cases x with
              | bool b =>
                rw [knowK_eq st1 t want b kt kf h1]
                simp only
                cases hb : (b == want) <;> rfl
              | _ => exact knowK_none _ _ _ _ _ fun b hb => by simp [h1] at hb
            | _ => exact knowK_none _ _ _ _ _ fun b hb => by simp [h1] at hb
      · rw [if_neg hc, if_neg hc]
        rfl
    | _ => rfl

/-! ### operations -/
def elemsK (st : St) (sz : Nat) (y : AV) (k : List (List DV) → Option DV) : Option DV :=
  match y with
  | .d .nilsl => k []
  | .d (.sl _ sz' es) => if sz = sz' then k es else none
  | .d (.sla _ sz' es) => cond (decide (sz = sz')) (k es) none
  | .aref s sz' off len =>
    match st.seg s with
    | some (.dat _ sz'' es) => if sz = sz' ∧ sz = sz'' then cond (decide (off + len ≤ es.length)) (k ((es.drop off).take len)) none else none
    | _ => none
  | _ => none
theorem elemsK_eq (st : St) (sz : Nat) (y : AV) (k : List (List DV) → Option DV) : elemsK st sz y k = (elems st sz y).bind k := by
  cases y with
  | d x =>
    cases x with
    | nilsl => rfl
    | sl q sz' es =>
      simp only [elemsK, elems]
      split <;> rfl
    | sla q sz' es =>
      simp only [elemsK, elems]
      by_cases h : sz = sz'
      · rw [decide_eq_true h, if_pos h]; rfl
      · rw [decide_eq_false h, if_neg h]; rfl
    | _ => rfl
  | aref s sz' off len =>
    simp only [elemsK, elems]
    cases st.seg s with
    | none => rfl
    | some o =>
      cases o with
      | dat el sz'' es =>
        simp only
        by_cases h : sz = sz' ∧ sz = sz''
        · by_cases h2 : off + len ≤ es.length
          · rw [if_pos h, decide_eq_true h2, if_pos ⟨h.1, h.2, h2⟩]; rfl
          · rw [if_pos h, decide_eq_false h2, if_neg fun g => h2 g.2.2]; rfl
        · rw [if_neg h, if_neg fun g => h ⟨g.1, g.2.1⟩]; rfl
      | mix el sz'' es => rfl
  | _ => rfl
def app0K (st : St) (t : Nat) (x : AV) (k : St → Option DV) : Option DV :=
  match x with
  | .d .nilsl => k (st.put t x)
  | .d (.sl _ _ _) => k (st.put t x)
  | .d (.sla _ _ _) => k (st.put t x)
  | .aref _ _ _ _ => k (st.put t x)
  | _ => none
def app1K (st : St) (t el sz bytes : Nat) (x : AV) (news : List (List DV)) (k : St → Option DV) : Option DV :=
  match x with
  | .d .nilsl => cond (decide (news.length * bytes ≤ room ∧ news.length ≤ room)) (k ((st.at_ t (.dat el sz news)).put t (.aref t sz 0 news.length))) none
  | .d (.sl .tight sz' es) =>
    cond (decide (sz' = sz ∧ (es ++ news).length * bytes ≤ room ∧ (es ++ news).length ≤ room ∧ es.all (fun e => e.length == sz && e.all DV.one))) (k ((st.at_ t (.dat el sz (es ++ news))).put t (.aref t sz 0 (es ++ news).length))) none
  | .d (.sla true sz' es) =>
    cond (decide (sz' = sz ∧ (es ++ news).length * bytes ≤ room ∧ (es ++ news).length ≤ room ∧ es.all (fun e => e.length == sz && e.all DV.one))) (k ((st.at_ t (.dat el sz (es ++ news))).put t (.aref t sz 0 (es ++ news).length))) none
  | .aref s sz' off len =>
    match st.seg s with
    | some (.dat el' sz'' es) =>
      cond (decide (el' = el ∧ sz' = sz ∧ sz'' = sz ∧ off = 0 ∧ len = es.length ∧ (es ++ news).length * bytes ≤ room ∧ (es ++ news).length ≤ room)) (k (((st.drop s).at_ (alt s t) (.dat el sz (es ++ news))).put t (.aref (alt s t) sz 0 (es ++ news).length))) none
    | _ => none
  | _ => none
def appendK (st : St) (t el sz bytes : Nat) (x y : AV) (k : St → Option DV) : Option DV :=
  elemsK st sz y fun news => cond (decide (news.length = 0)) (app0K st t x k) (cond (news.all (fun e => e.length == sz && e.all DV.one)) (app1K st t el sz bytes x news k) none)
theorem cond_dec {p : Prop} [Decidable p] (a b : Option DV) : cond (decide p) a b = if p then a else b := by
  by_cases h : p <;> simp [h]
theorem ite_bind {p : Prop} [Decidable p] (a b : Option St) (k : St → Option DV) : (if p then a else b).bind k = if p then a.bind k else b.bind k := by
  split <;> rfl
theorem appendK_eq (st : St) (t el sz bytes : Nat) (x y : AV) (k : St → Option DV) : appendK st t el sz bytes x y k = (aAppend st t el sz bytes x y).bind k := by
  unfold appendK aAppend
  rw [elemsK_eq]
  cases elems st sz y with
  | none => rfl
  | some news =>
    simp only [Option.bind_some, cond_dec, ite_bind]
    by_cases h0 : news.length = 0
    · rw [if_pos h0, if_pos h0]
      cases x with
      | d x => cases x <;> rfl
      | _ => rfl
    · rw [if_neg h0, if_neg h0]
      by_cases h1 : news.all (fun e => e.length == sz && e.all DV.one) = true
      · rw [h1, if_pos rfl]
        simp only [cond_true]
        cases x with
        | d x =>
          cases x with
          | nilsl => simp only [app1K, cond_dec, ite_bind]; rfl
          | sl q sz' es =>
            cases q with
            | tight => simp only [app1K, cond_dec, ite_bind]; rfl
            | _ => rfl
          | sla q sz' es =>
            cases q with
            | true => simp only [app1K, cond_dec, ite_bind]; rfl
            | false => rfl
          | _ => rfl
        | aref s sz' off len =>
          simp only [app1K]
          cases st.seg s with
          | none => rfl
          | some o =>
            cases o with
            | dat el' sz'' es => simp only [cond_dec, ite_bind]; rfl
            | mix el' sz'' es => rfl
        | _ => rfl
      · have h1' : news.all (fun e => e.length == sz && e.all DV.one) = false := by simpa using h1
        rw [if_neg h1, h1']
        rfl

def putRow (st : St) (s el sz : Nat) (es : List (List DV)) (i off : Nat) (e : List DV) (cs : List AV) (k : St → Option DV) : Option DV :=
  match datL cs with
  | some ds => k (st.upd s (.dat el sz (es.set i (splice e off ds))))
  | none => k (st.upd s (.mix el sz ((es.map (·.map AV.d)).set i (splice (e.map AV.d) off cs))))
def storeK (st : St) (sz : Nat) (a x : AV) (k : St → Option DV) : Option DV :=
  match a with
  | .ptr s sz' i off =>
    if x.cells.length = sz ∧ x.cells.all AV.one then
      match st.seg s with
      | some (.dat el sz'' es) => if sz' = sz'' then lookK es[i]? fun e => cond (decide (off + sz ≤ e.length)) (putRow st s el sz'' es i off e x.cells k) none else none
      | some (.mix el sz'' es) => if sz' = sz'' then lookK es[i]? fun e => cond (decide (off + sz ≤ e.length)) (k (st.upd s (.mix el sz'' (es.set i (splice e off x.cells))))) none else none
      | none => none
    else none
  | _ => none
theorem storeK_eq (st : St) (sz : Nat) (a x : AV) (k : St → Option DV) : storeK st sz a x k = (aStore st sz a x).bind k := by
  cases a with
  | ptr s sz' i off =>
    simp only [storeK, aStore]
    by_cases hc : x.cells.length = sz ∧ x.cells.all AV.one = true
    · rw [if_pos hc, if_pos hc]
      cases st.seg s with
      | none => rfl
      | some o =>
        cases o with
        | dat el sz'' es =>
          simp only
          by_cases h1 : sz' = sz''
          · rw [if_pos h1, if_pos h1, lookK_eq]
            cases es[i]? with
            | none => rfl
            | some e =>
              simp only [Option.bind_some, cond_dec, ite_bind]
              split
              · unfold putRow
                cases datL x.cells <;> rfl
              · rfl
          · rw [if_neg h1, if_neg h1]; rfl
        | mix el sz'' es =>
          simp only
          by_cases h1 : sz' = sz''
          · rw [if_pos h1, if_pos h1, lookK_eq]
            cases es[i]? with
            | none => rfl
            | some e =>
              simp only [Option.bind_some, cond_dec, ite_bind]
              rfl
          · rw [if_neg h1, if_neg h1]; rfl
    · rw [if_neg hc, if_neg hc]; rfl
  | _ => rfl
def mksliceK (st : St) (t el sz bytes : Nat) (z : List DV) (l c : AV) (k : St → Option DV) : Option DV :=
  match l, c with
  | .d (.int _ m), .d (.int _ n) =>
    cond (decide (m = n ∧ 0 ≤ n ∧ n.toNat * bytes ≤ room ∧ n.toNat ≤ room ∧ z.length = sz ∧ z.all DV.one)) (k ((st.at_ t (.dat el sz (List.replicate n.toNat z))).put t (.aref t sz 0 n.toNat))) none
  | _, _ => none

/-- what a call is handed, one by one -/
def snapK (st : St) (v : AV) (k : DV → Option DV) : Option DV :=
  match v with
  | .d x => k x
  | .aref s sz off len =>
    match st.seg s with
    | some (.dat _ sz' es) => if sz = sz' then cond (decide (off + len ≤ es.length)) (k (.sl .ro sz ((es.drop off).take len))) none else none
    | _ => lookK (snap st (.aref s sz off len)) k
  | v => lookK (snap st v) k
theorem snapK_eq (st : St) (v : AV) (k : DV → Option DV) : snapK st v k = (snap st v).bind k := by
  cases v with
  | d x => rfl
  | aref s sz off len =>
    simp only [snapK]
    split
    · rename_i el sz' es h
      simp only [snap, snapCell, h]
      by_cases h1 : sz = sz'
      · by_cases h2 : off + len ≤ es.length
        · rw [if_pos h1, if_pos ⟨h1, h2⟩, decide_eq_true h2]; rfl
        · rw [if_pos h1, if_neg fun h => h2 h.2, decide_eq_false h2]; rfl
      · rw [if_neg h1, if_neg fun h => h1 h.1]; rfl
    · exact lookK_eq _ _
  | _ => first | exact lookK_eq _ _ | rfl
def snapLK (st : St) : List AV → (List DV → Option DV) → Option DV
  | [], k => k []
  | v :: l, k => fvK v fun v => snapK st v fun x => snapLK st l fun xs => k (x :: xs)
theorem snapLK_eq (st : St) : ∀ (l : List AV) (k : List DV → Option DV), snapLK st l k = (mapO (snap st) l).bind k
  | [], k => rfl
  | v :: l, k => by
    simp only [snapLK, fvK_eq, snapK_eq, snapLK_eq st l, mapO]
    cases snap st v with
    | none => rfl
    | some x => cases mapO (snap st) l <;> rfl
abbrev CallK := FuncId → List DV → (DV → Option DV) → Option DV
def CallK.ok (call : FuncId → List DV → Option DV) (callK : CallK) : Prop := ∀ f ds k, callK f ds k = (call f ds).bind k

/-- a site written as what it holds -/
def St.sayO (st : St) (t : Nat) (o : Option Ob) : St := { st with seg := fun n => cond (Nat.beq n t) o (st.seg n) }
theorem St.sayO_eq {st : St} {t : Nat} : st.sayO t (st.seg t) = st := by
  cases st with
  | mk env seg =>
    simp only [St.sayO, St.mk.injEq, true_and]
    funext n
    cases hn : Nat.beq n t with
    | true => rw [Nat.eq_of_beq_eq_true hn]; rfl
    | false => rfl
def newK (t : Nat) (k : St → Option DV) (st : St) : Option DV := forK (st.seg t) fun o => k (st.sayO t o)
theorem newK_eq (t : Nat) (k : St → Option DV) (st : St) : newK t k st = k st := by
  simp only [newK, forK_eq, St.sayO_eq]
def putK (st : St) (t : Nat) (v : AV) (k : St → Option DV) : Option DV := fvK v.strip fun v => k (st.put t v)
theorem putK_eq (st : St) (t : Nat) (v : AV) (k : St → Option DV) : putK st t v k = k (st.put t v.strip) := fvK_eq _ _
def placeK (t : Nat) (r : DV) (st : St) (k : St → Option DV) : Option DV :=
  match r with
  | .int q n => k (st.put t (.d (.int q n)))
  | .bool b => k (st.put t (.d (.bool b)))
  | .sl (.own el) sz es => k ((st.at_ t (.dat el sz es)).put t (.aref t sz 0 es.length))
  | .tuple vs => cond (vs.any DV.isOwn) (k (place t (.tuple vs) st)) (flK vs fun vs => k (st.put t (.d (.tuple vs))))
  | .agg vs => cond (vs.any DV.isOwn) (k (place t (.agg vs) st)) (flK vs fun vs => k (st.put t (.d (.agg vs))))
  | r => k (place t r st)
theorem placeK_eq (t : Nat) (r : DV) (st : St) (k : St → Option DV) : placeK t r st k = k (place t r st) := by
  cases r with
  | sl q sz es => cases q <;> rfl
  | tuple vs =>
    simp only [placeK]
    cases ho : vs.any DV.isOwn with
    | true => rfl
    | false => simp [flK_eq, place, ho]
  | agg vs =>
    simp only [placeK]
    cases ho : vs.any DV.isOwn with
    | true => rfl
    | false => simp [flK_eq, place, ho]
  | _ => rfl
def gotK (t : Nat) (args : List AV) (r : DV) (st : St) (k : St → Option DV) : Option DV :=
  match r with
  | .int q n => k (st.put t (.d (.int q n)))
  | .bool b => k (st.put t (.d (.bool b)))
  | .sl (.own el) sz es => cond (anySiteL args) (cond (plainLL es) (k ((st.at_ t (.dat el sz es)).put t (.aref t sz 0 es.length))) none) (k ((st.at_ t (.dat el sz es)).put t (.aref t sz 0 es.length)))
  | .sl (.own2 el) sz es => cond (anySiteL args) none (placeK t (.sl (.own2 el) sz es) st k)
  | r => cond (anySiteL args && !r.plain) (k (got t args r st)) (placeK t r st k)
theorem gotK_eq (t : Nat) (args : List AV) (r : DV) (st : St) (k : St → Option DV) : gotK t args r st k = (gotO t args r st).bind k := by
  have other : r.isOwn = false → cond (anySiteL args && !r.plain) (k (got t args r st)) (placeK t r st k) = (gotO t args r st).bind k := by
    intro ho
    simp only [gotO, ho, Bool.false_and, Bool.false_eq_true, if_false, Option.bind_some, placeK_eq, got]
    cases (anySiteL args && !r.plain) <;> rfl
  cases r with
  | int q n => simp [gotK, gotO, got, DV.isOwn, DV.plain, place]
  | bool b => simp [gotK, gotO, got, DV.isOwn, DV.plain, place]
  | sl q sz es =>
    cases q with
    | own el =>
      simp only [gotK, gotO, got, DV.isOwn, DV.plain, Bool.true_and]
      by_cases h1 : anySiteL args = true <;> by_cases h2 : plainLL es = true <;> simp [h1, h2, place]
    | own2 el =>
      simp only [gotK, gotO, got, DV.isOwn, DV.plain, Bool.true_and, Bool.not_false, Bool.and_true]
      cases anySiteL args <;> simp [placeK_eq]
    | ro => exact other rfl
    | tight => exact other rfl
  | _ => exact other rfl
def valK (st : St) (t : Nat) (op : AOp) (k : St → Option DV) : Option DV :=
  match op with
  | .build z parts => lookK (aVal st (.build z parts)) fun v => faK v fun v => putK st t v k
  | .iaddr sz x i z => iaddrK sz (x.ev st) (i.ev st) fun v => rowK z v fun v => putK st t v k
  | .load g sz x z => loadK st g sz (x.ev st) fun v => chkK g z v fun v => faK v fun v => putK st t v k
  | .bin op x y => binK op (x.ev st) (y.ev st) fun v => putK st t v k
  | .shf op x y => shfK op (x.ev st) (y.ev st) fun v => putK st t v k
  | .pick c a b => pickK st c a b fun v => putK st t v k
  | .slice sz x lo hi mx => sliceK st sz (x.ev st) lo hi mx fun v => putK st t v k
  | op => lookK (aVal st op) fun v => putK st t v k
theorem valK_eq (st : St) (t : Nat) (op : AOp) (k : St → Option DV) : valK st t op k = ((aVal st op).map fun v => st.put t v.strip).bind k := by
  have put : ∀ (o : Option AV), (o.map fun v => st.put t v.strip).bind k = o.bind fun v => k (st.put t v.strip) := fun o => by cases o <;> rfl
  rw [put]
  have other : lookK (aVal st op) (fun v => putK st t v k) = (aVal st op).bind fun v => k (st.put t v.strip) := by
    simp only [lookK_eq, putK_eq]
  cases op <;> first
    | exact other
    | skip
  case build z parts => simp only [valK, lookK_eq, faK_eq, putK_eq]
  case iaddr sz x i z =>
    simp only [valK, iaddrK_eq, rowK_eq, putK_eq, aVal]
    cases aIaddr sz (x.ev st) (i.ev st) <;> rfl
  case load g sz x z =>
    simp only [valK, loadK_eq, chkK_eq, faK_eq, putK_eq, aVal]
    cases aLoad st g sz (x.ev st) <;> rfl
  case bin op x y => simp only [valK, binK_eq, putK_eq, aVal]
  case shf op x y => simp only [valK, shfK_eq, putK_eq, aVal]
  case pick c a b => simp only [valK, pickK_eq, putK_eq]
  case slice sz x lo hi mx => simp only [valK, sliceK_eq, putK_eq, aVal]

def opK (call : FuncId → List DV → Option DV) (callK : CallK) (dst : Option Nat) (op : AOp) (st : St) (k : St → Option DV) : Option DV :=
  match op, dst with
  | .store sz a x, none => fvK (a.ev st) fun a => fvK (x.ev st) fun x => storeK st sz a x k
  | .mkslice el sz bytes z l c, some t => mksliceK st t el sz bytes z (l.ev st) (c.ev st) k
  | .append el sz bytes x y, some t => fvK (x.ev st) fun x => fvK (y.ev st) fun y => appendK st t el sz bytes x y k
  | .call f args, some t =>
    snapLK st (args.map (·.ev st)) fun ds => callK f ds fun r => gotK t (args.map (·.ev st)) r st k
  | .dcall g args, some t =>
    (match snap st (g.ev st), mapO (snap st) (args.map (·.ev st)) with
     | some (.func f caps), some ds => flK (ds ++ caps) fun ds => callK f ds fun r => gotK t (g.ev st :: args.map (·.ev st)) r st k
     | _, _ => none)
  | .mcall f x args, some t => fvK (x.ev st) fun x =>
    (match x with
     | .aref s sz off len =>
       (match st.seg s with
        | some (.dat el sz' es) =>
          cond (anySiteL (args.map (·.ev st))) none <| cond (decide (sz' = sz ∧ off = 0 ∧ len = es.length))
            (snapLK st (args.map (·.ev st)) fun ds => callK f (.mv el sz es :: ds) fun r => placeK t r (st.lose s) k) none
        | _ => none)
     | .d y => snapLK st (.d y :: args.map (·.ev st)) fun ds => callK f ds fun r => cond (anySiteL (args.map (·.ev st)) && !r.plain) none (placeK t r st k)
     | _ => none)
  | .box el sz x, some t => fvK (x.ev st) fun _ => lookK (opStep call (some t) (.box el sz x) st) (newK t k)
  | .alloc el sz z, some t => lookK (opStep call (some t) (.alloc el sz z) st) k
  | .bslice el sz n z ps, some t => lookK (opStep call (some t) (.bslice el sz n z ps) st) (newK t k)
  | op, some t => valK st t op k
  | op, none => lookK (opStep call none op st) k
theorem opK_eq {call : FuncId → List DV → Option DV} {callK : CallK} (hK : CallK.ok call callK) (dst : Option Nat) (op : AOp) (st : St) (k : St → Option DV) : opK call callK dst op st k = (opStep call dst op st).bind k := by
  have other : lookK (opStep call dst op st) k = (opStep call dst op st).bind k := lookK_eq _ _
  have new : ∀ t, lookK (opStep call dst op st) (newK t k) = (opStep call dst op st).bind k := fun t => by
    rw [lookK_eq]
    congr 1
    funext s
    exact newK_eq t k s
  cases op <;> cases dst <;> first
    | exact other
    | exact new _
    | (simp only [opK, fvK_eq]; exact new _)
    | (simp only [opK, opStep, valK_eq]; done)
    | skip
  case store.none sz a x =>
    simp only [opK, fvK_eq]
    exact storeK_eq _ _ _ _ _
  case mkslice.some el sz bytes z l c t =>
    simp only [opK, opStep, mksliceK]
    generalize l.ev st = lv
    generalize c.ev st = cv
    cases lv with
    | d lv =>
      cases lv with
      | int q m =>
        cases cv with
        | d cv =>
          cases cv with
          | int q' n => simp only [cond_dec, ite_bind]; rfl
          | _ => rfl
        | _ => rfl
      | _ => rfl
    | _ => rfl
  case append.some el sz bytes x y t =>
    simp only [opK, fvK_eq]
    exact appendK_eq _ _ _ _ _ _ _ _
  case call.some f args t =>
    simp only [opK, opStep, snapLK_eq]
    cases mapO (snap st) (args.map (·.ev st)) with
    | none => rfl
    | some ds =>
      simp only [Option.bind_some]
      rw [hK f ds _]
      simp only [gotK_eq]
      cases call f ds <;> rfl
  case mcall.some f x args t =>
    simp only [opK, opStep, fvK_eq, snapLK_eq]
    cases x.ev st with
    | aref s sz off len =>
      simp only
      cases st.seg s with
      | none => rfl
      | some ob =>
        cases ob with
        | mix => rfl
        | dat el sz' es =>
          cases hany : anySiteL (args.map (·.ev st)) with
          | true =>
            simp only [cond_true, Bool.true_eq_false, and_false, if_false]
            rfl
          | false =>
          simp only [cond_false, cond_dec, and_true]
          split
          · cases mapO (snap st) (args.map (·.ev st)) with
            | none => rfl
            | some ds =>
              simp only [Option.bind_some]
              rw [hK f _ _]
              simp only [placeK_eq]
              cases call f (.mv el sz es :: ds) <;> rfl
          · rfl
    | d y =>
      simp only
      cases mapO (snap st) (AV.d y :: args.map (·.ev st)) with
      | none => rfl
      | some ds =>
        simp only [Option.bind_some]
        rw [hK f ds _]
        cases call f ds with
        | none => rfl
        | some r =>
          simp only [Option.bind_some, placeK_eq]
          cases (anySiteL (args.map (·.ev st)) && !r.plain) <;> rfl
    | _ => rfl
  case dcall.some g args t =>
    simp only [opK, opStep]
    cases snap st (g.ev st) with
    | none => rfl
    | some gv =>
      cases gv with
      | func f caps =>
        cases mapO (snap st) (args.map (·.ev st)) with
        | none => rfl
        | some ds =>
          simp only [flK_eq]
          rw [hK f (ds ++ caps) _]
          simp only [gotK_eq]
          cases call f (ds ++ caps) <;> rfl
      | _ => rfl

/-- the value of an operation that changes no object -/
def roTopK (r : DV) (k : DV → Option DV) : Option DV :=
  match r with
  | .int q n => k (.int q n)
  | .bool b => k (.bool b)
  | r => k (roTop r)
theorem roTopK_eq (r : DV) (k : DV → Option DV) : roTopK r k = k (roTop r) := by cases r <;> rfl
def gValK (call : FuncId → List DV → Option DV) (callK : CallK) (op : AOp) (st : St) (k : AV → Option DV) : Option DV :=
  match op with
  | .iaddr sz x i z => iaddrK sz (x.ev st) (i.ev st) fun v => rowK z v k
  | .load g sz x z => loadK st g sz (x.ev st) fun v => chkK g z v fun v => faK v k
  | .build z parts => lookK (aVal st (.build z parts)) fun v => faK v k
  | .bin op x y => binK op (x.ev st) (y.ev st) k
  | .shf op x y => shfK op (x.ev st) (y.ev st) k
  | .pick c a b => pickK st c a b k
  | .slice sz x lo hi mx => sliceK st sz (x.ev st) lo hi mx k
  | .call f args =>
    snapLK st (args.map (·.ev st)) fun ds => callK f ds fun r => cond (anySiteL (args.map (·.ev st)) && !r.plain) none (roTopK r fun r => k (.d r))
  | .dcall g args =>
    (match snap st (g.ev st), mapO (snap st) (args.map (·.ev st)) with
     | some (.func f caps), some ds => flK (ds ++ caps) fun ds => callK f ds fun r => cond (anySiteL (g.ev st :: args.map (·.ev st)) && !r.plain) none (roTopK r fun r => k (.d r))
     | _, _ => none)
  | op => lookK (gVal call op st) k
theorem gValK_eq {call : FuncId → List DV → Option DV} {callK : CallK} (hK : CallK.ok call callK) (op : AOp) (st : St) (k : AV → Option DV) : gValK call callK op st k = (gVal call op st).bind k := by
  have other : lookK (gVal call op st) k = (gVal call op st).bind k := lookK_eq _ _
  have fin : ∀ (b : Bool) (r : DV), cond b none (k (.d (roTop r))) = (if b then none else some (AV.d (roTop r))).bind k := by intro b r; cases b <;> rfl
  cases op <;> first
    | exact other
    | skip
  case build z parts =>
    simp only [gValK, faK_eq, lookK_eq]
    rfl
  case iaddr sz x i z =>
    simp only [gValK, iaddrK_eq, rowK_eq, gVal, aVal]
    cases aIaddr sz (x.ev st) (i.ev st) <;> rfl
  case load g sz x z =>
    simp only [gValK, loadK_eq, chkK_eq, faK_eq, gVal, aVal]
    cases aLoad st g sz (x.ev st) <;> rfl
  case bin op x y => exact binK_eq _ _ _ _
  case shf op x y => exact shfK_eq _ _ _ _
  case pick c a b => exact pickK_eq _ _ _ _ _
  case slice sz x lo hi mx => exact sliceK_eq _ _ _ _ _ _ _
  case call f args =>
    simp only [gValK, gVal, snapLK_eq]
    cases mapO (snap st) (args.map (·.ev st)) with
    | none => rfl
    | some ds =>
      simp only [Option.bind_some, roTopK_eq]
      rw [hK f ds _]
      cases call f ds with
      | none => rfl
      | some r => exact fin _ r
  case dcall g args =>
    simp only [gValK, gVal]
    cases snap st (g.ev st) with
    | none => rfl
    | some gv =>
      cases gv with
      | func f caps =>
        cases mapO (snap st) (args.map (·.ev st)) with
        | none => rfl
        | some ds =>
          simp only [flK_eq, roTopK_eq]
          rw [hK f (ds ++ caps) _]
          cases call f (ds ++ caps) with
          | none => rfl
          | some r => exact fin _ r
      | _ => rfl

/-- a slot written as what it holds -/
def St.say (st : St) (t : Nat) (v : AV) : St := { st with env := fun n => cond (Nat.beq n t) v (st.env n) }
theorem St.say_eq {st : St} {t : Nat} {v : AV} (h : st.env t = v) : st.say t v = st := by
  cases st with
  | mk env seg =>
    simp only [St.say, St.mk.injEq, and_true]
    funext n
    cases hn : Nat.beq n t with
    | true =>
      rw [Nat.eq_of_beq_eq_true hn]
      exact h.symm
    | false => rfl
def deadK (st : St) : Nat → Bool → List (Nat × Bool) → (Bool → St → Option DV) → Option DV
  | t, want, [], k => match st.env t with | .d (.bool b) => cond b (k (!want) (st.say t (.d (.bool true)))) (k want (st.say t (.d (.bool false)))) | _ => k false st
  | t, want, (t', want') :: up, k =>
    match st.env t with
    | .d (.bool b) => cond b (k (!want) (st.say t (.d (.bool true)))) (k want (st.say t (.d (.bool false))))
    | .w t1 w1 v =>
      if t1 = t' ∧ w1 = want' then
        (match v with
         | .d (.bool b) => cond b (cond want (deadK (st.say t (.w t1 w1 (.d (.bool true)))) t' want' up k) (k true (st.say t (.w t1 w1 (.d (.bool true))))))
             (cond want (k true (st.say t (.w t1 w1 (.d (.bool false))))) (deadK (st.say t (.w t1 w1 (.d (.bool false)))) t' want' up k))
         | _ => deadK st t' want' up k)
      else k false st
    | _ => k false st
theorem deadK_eq : ∀ (up : List (Nat × Bool)) (st : St) (t : Nat) (want : Bool) (k : Bool → St → Option DV), deadK st t want up k = k (st.dead t want up) st
  | [], st, t, want, k => by
    simp only [deadK, St.dead]
    cases h : st.env t with
    | d x =>
      cases x with
      | bool b =>
        cases b
        · simp only [cond_false, St.say_eq h]; cases want <;> rfl
        · simp only [cond_true, St.say_eq h]; cases want <;> rfl
      | _ => rfl
    | _ => rfl
  | (t', want') :: up, st, t, want, k => by
    simp only [deadK, St.dead]
    cases h : st.env t with
    | d x =>
      cases x with
      | bool b =>
        cases b
        · simp only [cond_false, St.say_eq h]; cases want <;> rfl
        · simp only [cond_true, St.say_eq h]; cases want <;> rfl
      | _ => rfl
    | w t1 w1 v =>
      simp only
      by_cases hc : t1 = t' ∧ w1 = want'
      · rw [if_pos hc]
        simp only [hc, and_self, decide_true, Bool.true_and]
        rw [hc.1, hc.2] at h
        cases v with
        | d x =>
          cases x with
          | bool b =>
            cases b
            · simp only [cond_false, St.say_eq h, deadK_eq up]; cases want <;> rfl
            · simp only [cond_true, St.say_eq h, deadK_eq up]; cases want <;> rfl
          | _ => exact deadK_eq up _ _ _ _
        | _ => exact deadK_eq up _ _ _ _
      · rw [if_neg hc]
        simp only [hc, decide_false, Bool.false_and]
    | _ => rfl
def insK (call : FuncId → List DV → Option DV) (callK : CallK) (i : AIns) (st : St) (k : St → Option DV) : Option DV :=
  match i.g with
  | none => cond i.tot (opK call callK i.dst i.op st k) (match i.dst with | some d => gValK call callK i.op st fun v => k (st.put d v.strip) | none => none)
  | some (t, want) =>
    cond i.tot
      (match st.hypL t want i.up, i.dst with
       | some h, some d =>
         (match gVal call i.op h with
          | some v => fdvK v fun v => k (st.put d (.w t want v))
          | none => deadK st t want i.up fun dd st => cond dd (k (st.put d (.w t want .undef))) none)
       | _, _ => none)
      (branchK st t want i.up (fun st1 => opK call callK i.dst i.op st1 k) (fun st1 => k (st1.putO i.dst (.w t want .undef))))
theorem insK_eq {call : FuncId → List DV → Option DV} {callK : CallK} (hK : CallK.ok call callK) (i : AIns) (st : St) (k : St → Option DV) : insK call callK i st k = (insStep call i st).bind k := by
  unfold insK insStep
  cases i.g with
  | none =>
    simp only
    cases i.tot with
    | true => exact opK_eq hK _ _ _ _
    | false =>
      simp only [cond_false, Bool.false_eq_true, if_false]
      cases i.dst with
      | none => rfl
      | some d =>
        simp only
        rw [gValK_eq hK]
        cases gVal call i.op st <;> rfl
  | some tw =>
    obtain ⟨t, want⟩ := tw
    simp only
    cases i.tot with
    | true =>
      simp only [cond_true, if_true]
      cases st.hypL t want i.up with
      | none => rfl
      | some h =>
        cases i.dst with
        | none => rfl
        | some d =>
          simp only
          cases gVal call i.op h with
          | some v => exact fdvK_eq _ _
          | none =>
            simp only [deadK_eq]
            cases st.dead t want i.up <;> rfl
    | false =>
      simp only [cond_false, Bool.false_eq_true, if_false]
      rw [branchK_eq]
      cases st.branch t want i.up with
      | none => rfl
      | some r =>
        obtain ⟨r, st1⟩ := r
        cases r with
        | false => rfl
        | true => exact opK_eq hK _ _ _ _
def runK (call : FuncId → List DV → Option DV) (callK : CallK) : List AIns → St → (St → Option DV) → Option DV
  | [], st, k => k st
  | i :: l, st, k => insK call callK i st fun st1 => runK call callK l st1 k
theorem runK_eq {call : FuncId → List DV → Option DV} {callK : CallK} (hK : CallK.ok call callK) : ∀ (l : List AIns) (st : St) (k : St → Option DV), runK call callK l st k = (runIns call l st).bind k
  | [], st, k => rfl
  | i :: l, st, k => by
    simp only [runK, runIns]
    rw [insK_eq hK]
    cases insStep call i st with
    | none => rfl
    | some st1 => exact runK_eq hK l st1 k

def vResK (call : FuncId → List DV → Option DV) (callK : CallK) (i : AIns) (st : St) (k : AV → St → Option DV) : Option DV :=
  match i.g with
  | none => gValK call callK i.op st fun v => k v.strip st
  | some (t, want) =>
    match st.hypL t want i.up with
    | some h =>
      cond i.tot
        (match gVal call i.op h with
         | some v => fdvK v fun v => k (.w t want v) st
         | none => deadK st t want i.up fun dd st => cond dd (k (.w t want .undef) st) none)
        (deadK st t want i.up fun dd st => cond dd (k (.w t want .undef) st) (match st.hypL t want i.up with
          | some h => gValK call callK i.op h fun v => k (.w t want v) st
          | none => none))
    | none => none
theorem vResK_eq {call : FuncId → List DV → Option DV} {callK : CallK} (hK : CallK.ok call callK) (i : AIns) (st : St) (k : AV → St → Option DV) : vResK call callK i st k = (vRes call i st).bind fun v => k v st := by
  unfold vResK vRes
  cases i.g with
  | none =>
    simp only
    rw [gValK_eq hK]
    cases gVal call i.op st <;> rfl
  | some tw =>
    obtain ⟨t, want⟩ := tw
    simp only
    cases hh : st.hypL t want i.up with
    | none => rfl
    | some h =>
      simp only
      cases i.tot with
      | true =>
        simp only [cond_true, if_true]
        cases gVal call i.op h with
        | some v => exact fdvK_eq _ _
        | none =>
          simp only [deadK_eq]
          cases st.dead t want i.up <;> rfl
      | false =>
        simp only [cond_false, Bool.false_eq_true, if_false, deadK_eq, hh]
        cases st.dead t want i.up with
        | true => rfl
        | false =>
          simp only [cond_false, Bool.false_eq_true, if_false]
          rw [gValK_eq hK]
          cases gVal call i.op h <;> rfl
def eStepK (call : FuncId → List DV → Option DV) (callK : CallK) (dst : Option Nat) (op : AOp) (st : St) (k : St → Option DV) : Option DV :=
  match op, dst with
  | .call f args, some t =>
    snapLK st (args.map (·.ev st)) fun ds => callK f ds fun r => cond (anySiteL (args.map (·.ev st)) && !r.plain) none (placeK t r st k)
  | .dcall _ _, _ => none
  | op, dst => opK call callK dst op st k
theorem eStepK_eq {call : FuncId → List DV → Option DV} {callK : CallK} (hK : CallK.ok call callK) (dst : Option Nat) (op : AOp) (st : St) (k : St → Option DV) : eStepK call callK dst op st k = (eStep call dst op st).bind k := by
  cases op <;> first
    | exact opK_eq hK _ _ _ _
    | skip
  case call f args =>
    cases dst with
    | none => exact opK_eq hK none (.call f args) st k
    | some t =>
      simp only [eStepK, eStep, snapLK_eq]
      cases mapO (snap st) (args.map (·.ev st)) with
      | none => rfl
      | some ds =>
        simp only [Option.bind_some]
        rw [hK f ds _]
        cases call f ds with
        | none => rfl
        | some r =>
          simp only [Option.bind_some, placeK_eq]
          cases (anySiteL (args.map (·.ev st)) && !r.plain) <;> rfl
  case dcall g args => cases dst <;> rfl
def dStepK (call : FuncId → List DV → Option DV) (callK : CallK) (i : AIns) (st : St) (k : St → Option DV) : Option DV :=
  cond i.e (eStepK call callK i.dst i.op st k) <|
  match i.op with
  | .store sz a x => (match i.g, i.dst with
    | none, none => fvK (a.ev st) fun a => fvK (x.ev st) fun x => storeK st sz a x k
    | _, _ => none)
  | _ => (match i.dst with
    | some d => vResK call callK i st fun v st => fvK v fun v => k (st.put d v)
    | none => none)
theorem dStepK_eq {call : FuncId → List DV → Option DV} {callK : CallK} (hK : CallK.ok call callK) (i : AIns) (st : St) (k : St → Option DV) : dStepK call callK i st k = (dStep call i st).bind k := by
  have v : (match i.dst with
    | some d => vResK call callK i st fun v st => fvK v fun v => k (st.put d v)
    | none => none) = (vStep call i st).bind k := by
    unfold vStep
    cases i.dst with
    | none => rfl
    | some d =>
      simp only [fvK_eq]
      rw [vResK_eq hK]
      cases vRes call i st <;> rfl
  unfold dStepK dStep
  cases i.e with
  | true =>
    simp only [cond_true, if_true]
    exact eStepK_eq hK _ _ _ _
  | false =>
  simp only [cond_false, Bool.false_eq_true, if_false]
  cases i.op <;> first
    | exact v
    | skip
  simp only
  cases i.g with
  | none =>
    cases i.dst with
    | none =>
      simp only [fvK_eq]
      exact storeK_eq _ _ _ _ _
    | some d => rfl
  | some tw => rfl
def runDK (call : FuncId → List DV → Option DV) (callK : CallK) : List AIns → St → (St → Option DV) → Option DV
  | [], st, k => k st
  | i :: l, st, k => dStepK call callK i st fun st1 => runDK call callK l st1 k
theorem runDK_eq {call : FuncId → List DV → Option DV} {callK : CallK} (hK : CallK.ok call callK) : ∀ (l : List AIns) (st : St) (k : St → Option DV), runDK call callK l st k = (runD call l st).bind k
  | [], st, k => rfl
  | i :: l, st, k => by
    simp only [runDK, runD]
    rw [dStepK_eq hK]
    cases dStep call i st with
    | none => rfl
    | some st1 => exact runDK_eq hK l st1 k

/-! ### code -/
abbrev Kont := Ex → St → Option DV
def iterK (f : St → Kont → Option DV) : Nat → St → Kont → Option DV
  | 0, _, _ => none
  | n + 1, st, k => f st fun e st1 => match e with | .nrm => iterK f n st1 k | e => k e st1
abbrev RunK := Nat → (St → Kont → Option DV) → Nat → St → Kont → Option DV
def bodyK (h : Hint) (f : St → Kont → Option DV) (st : St) (k : Kont) : Option DV :=
  f st fun e st1 => match e with | .nrm => keepK (St.away h.fr st1) h (k .nrm) | e => k e st1
def execK (call : FuncId → List DV → Option DV) (callK : CallK) (rk : RunK) (L : Nat) : AC → St → Kont → Option DV
  | .skip, st, k => k .nrm st
  | .reg ops, st, k => runK call callK ops st (k .nrm)
  | .dreg ops dyn, st, k => runDK call callK ops (St.frees (fsites ops) st) fun st1 => cond (dyn.all (dynOk st1)) (k .nrm st1) none
  | .seq a b, st, k => execK call callK rk L a st fun e st1 => match e with | .nrm => execK call callK rk L b st1 k | e => k e st1
  | .cond c a b, st, k =>
    match c.ev st with
    | .d (.bool t) => cond t (execK call callK rk L a st k) (execK call callK rk L b st k)
    | _ => none
  | .block id b, st, k => execK call callK rk L b st fun e st1 => match e with | .ex id' => if id' = id then k .nrm st1 else k (.ex id') st1 | e => k e st1
  | .loop none b, st, k => iterK (execK call callK rk L b) L st k
  | .loop (some h) b, st, k => keepK (St.away h.fr st) h fun st => rk h.key (bodyK h (execK call callK rk L b)) L st k
  | .exit h id, st, k => keepOK st h (k (.ex id))
  | .ret h, st, k => keepOK st h (k .ret)
  | .bad, _, _ => none
def fin (k : Kont) : Option (Ex × St) → Option DV
  | some (e, st) => k e st
  | none => none
theorem iterK_eq {f : St → Option (Ex × St)} {fK : St → Kont → Option DV} (h : ∀ st k, fK st k = fin k (f st)) : ∀ (n : Nat) (st : St) (k : Kont), iterK fK n st k = fin k (iter f n st)
  | 0, st, k => rfl
  | n + 1, st, k => by
    simp only [iterK, iter, h]
    cases f st with
    | none => rfl
    | some r =>
      obtain ⟨e, st1⟩ := r
      cases e with
      | nrm => exact iterK_eq h n st1 k
      | _ => rfl
theorem bodyK_eq {h : Hint} {f : St → Option (Ex × St)} {fK : St → Kont → Option DV} (hf : ∀ st k, fK st k = fin k (f st)) (st : St) (k : Kont) : bodyK h fK st k = fin k (bodyOf h f st) := by
  simp only [bodyK, bodyOf, hf, keepK_eq]
  cases f st with
  | none => rfl
  | some r =>
    obtain ⟨e, st1⟩ := r
    cases e <;> rfl
def RunK.ok (run : Run) (rk : RunK) : Prop := ∀ (key : Nat) (f : St → Option (Ex × St)) (fK : St → Kont → Option DV), (∀ st k, fK st k = fin k (f st)) → ∀ (L : Nat) (st : St) (k : Kont), rk key fK L st k = fin k (run key f L st)
def RunK.plain : RunK := fun _ f L st k => iterK f L st k
theorem RunK.plain_ok : RunK.ok Run.plain RunK.plain := fun _ f fK h L st k => iterK_eq h L st k
theorem execK_eq {call : FuncId → List DV → Option DV} {callK : CallK} (hK : CallK.ok call callK) {run : Run} {rk : RunK} (hR : RunK.ok run rk) (L : Nat) : ∀ (c : AC) (st : St) (k : Kont), execK call callK rk L c st k = fin k (exec call run L c st)
  | .skip, st, k => rfl
  | .reg ops, st, k => by
    simp only [execK, exec]
    rw [runK_eq hK]
    cases runIns call ops st <;> rfl
  | .dreg ops dyn, st, k => by
    simp only [execK, exec]
    rw [runDK_eq hK]
    cases runD call ops (St.frees (fsites ops) st) with
    | none => rfl
    | some st1 =>
      simp only [Option.bind_some]
      cases dyn.all (dynOk st1) <;> rfl
  | .seq a b, st, k => by
    simp only [execK, exec]
    rw [execK_eq hK hR L a]
    cases exec call run L a st with
    | none => rfl
    | some r =>
      obtain ⟨e, st1⟩ := r
      cases e with
      | nrm => exact execK_eq hK hR L b st1 k
      | _ => rfl
  | .cond c a b, st, k => by
    simp only [execK, exec]
    cases c.ev st with
    | d x =>
      cases x with
      | bool t =>
        cases t with
        | true => exact execK_eq hK hR L a st k
        | false => exact execK_eq hK hR L b st k
      | _ => rfl
    | _ => rfl
  | .block id b, st, k => by
    simp only [execK, exec]
    rw [execK_eq hK hR L b]
    cases exec call run L b st with
    | none => rfl
    | some r =>
      obtain ⟨e, st1⟩ := r
      cases e with
      | ex id' =>
        simp only [fin]
        split <;> rfl
      | _ => rfl
  | .loop none b, st, k => by
    simp only [execK, exec]
    exact iterK_eq (fun st k => execK_eq hK hR L b st k) L st k
  | .loop (some h) b, st, k => by
    simp only [execK, exec, keepK_eq]
    exact hR _ _ _ (bodyK_eq fun st k => execK_eq hK hR L b st k) _ _ _
  | .exit h id, st, k => by
    simp only [execK, exec, keepOK_eq]
    rfl
  | .ret h, st, k => by
    simp only [execK, exec, keepOK_eq]
    rfl
  | .bad, _, _ => rfl

/-- what a call hands back -/
def retOwnK (st : St) (v : AV) (k : DV → Option DV) : Option DV :=
  match v with
  | .d x => roTopK x k
  | .aref s sz off len =>
    match st.seg s with
    | some (.dat el sz' es) => if sz' = sz ∧ off = 0 then cond (decide (len = es.length)) (k (.sl (.own el) sz es)) (snapK st (.aref s sz off len) fun x => k (roTop x)) else lookK (retOwn st (.aref s sz off len)) k
    | _ => lookK (retOwn st (.aref s sz off len)) k
  | v => lookK (retOwn st v) k
theorem retOwnK_eq (st : St) (v : AV) (k : DV → Option DV) : retOwnK st v k = (retOwn st v).bind k := by
  cases v with
  | d x => exact roTopK_eq x k
  | aref s sz off len =>
    simp only [retOwnK]
    split
    · rename_i el sz' es h
      by_cases h1 : sz' = sz ∧ off = 0
      · rw [if_pos h1]
        by_cases h2 : len = es.length
        · rw [decide_eq_true h2]
          simp only [retOwn, h]
          rw [if_pos ⟨h1.1, h1.2, h2⟩]
          rfl
        · rw [decide_eq_false h2]
          simp only [retOwn, h, cond_false, snapK_eq]
          rw [if_neg fun g => h2 g.2.2]
          cases snap st (.aref s sz off len) <;> rfl
      · rw [if_neg h1]
        exact lookK_eq _ _
    · exact lookK_eq _ _
  | _ => first | exact lookK_eq _ _ | rfl
def retOwnLK (st : St) : List AV → (List DV → Option DV) → Option DV
  | [], k => k []
  | v :: l, k => fvK v fun v => retOwnK st v fun x => retOwnLK st l fun xs => k (x :: xs)
theorem retOwnLK_eq (st : St) : ∀ (l : List AV) (k : List DV → Option DV), retOwnLK st l k = (mapO (retOwn st) l).bind k
  | [], k => rfl
  | v :: l, k => by
    simp only [retOwnLK, fvK_eq, retOwnK_eq, retOwnLK_eq st l, mapO]
    cases retOwn st v with
    | none => rfl
    | some x => cases mapO (retOwn st) l <;> rfl
def retTopK (st : St) (v : AV) (k : DV → Option DV) : Option DV :=
  cond (nodup (v.sites ++ v.sites.flatMap st.inner) && v.sites.all (st.siteOk v.sites))
    (match v with
     | .tuple vs => retOwnLK st vs fun l => k (.tuple l)
     | .agg vs => retOwnLK st vs fun l => k (.agg l)
     | v => retOwnK st v k)
    (lookK ((snap st v).map roTop) k)
theorem retTopK_eq (st : St) (v : AV) (k : DV → Option DV) : retTopK st v k = (retTop st v).bind k := by
  unfold retTopK retTop
  cases hc : (nodup (v.sites ++ v.sites.flatMap st.inner) && v.sites.all (st.siteOk v.sites)) with
  | false => exact lookK_eq _ _
  | true =>
    simp only [cond_true, if_true]
    cases v with
    | tuple vs =>
      simp only [retOwnLK_eq]
      cases mapO (retOwn st) vs <;> rfl
    | agg vs =>
      simp only [retOwnLK_eq]
      cases mapO (retOwn st) vs <;> rfl
    | _ => exact retOwnK_eq _ _ _
def aRetK (st : St) (res : List RV) (k : DV → Option DV) : Option DV :=
  lookK (mapO (RV.get st) res) fun vs => match vs with
    | [v] => fvK v fun v => retTopK st v k
    | vs => retTopK st (.tuple vs) k
theorem aRetK_eq (st : St) (res : List RV) (k : DV → Option DV) : aRetK st res k = (aRet st res).bind k := by
  unfold aRetK aRet
  rw [lookK_eq]
  cases mapO (RV.get st) res with
  | none => rfl
  | some vs =>
    simp only [Option.bind_some]
    match vs with
    | [] => exact retTopK_eq _ _ _
    | [v] => simp only [fvK_eq]; exact retTopK_eq _ _ _
    | v :: u :: l => exact retTopK_eq _ _ _
def acallK (tab : FuncId → Option AFn) (L : Nat) : Nat → CallK
  | 0, _, _, _ => none
  | n + 1, f, ds, k =>
    match tab f with
    | none => none
    | some fn =>
      if ds.length ≤ fn.ntmps then
        execK (acall tab L n) (acallK tab L n) RunK.plain L fn.body (St.init ds) fun e st => match e with
          | .nrm => aRetK st fn.res k
          | .ret => aRetK st fn.res k
          | .ex _ => none
      else none
theorem acallK_ok (tab : FuncId → Option AFn) (L : Nat) : ∀ n, CallK.ok (acall tab L n) (acallK tab L n)
  | 0, f, ds, k => rfl
  | n + 1, f, ds, k => by
    simp only [acallK, acall]
    cases tab f with
    | none => rfl
    | some fn =>
      simp only
      split
      · rw [execK_eq (acallK_ok tab L n) RunK.plain_ok]
        cases exec (acall tab L n) Run.plain L fn.body (St.init ds) with
        | none => rfl
        | some r =>
          obtain ⟨e, st⟩ := r
          cases e with
          | nrm => exact aRetK_eq _ _ _
          | ret => exact aRetK_eq _ _ _
          | ex id => rfl
      · rfl
theorem acallK_run {tab : FuncId → Option AFn} {L n : Nat} {f : FuncId} {ds : List DV} {r : DV} (h : acallK tab L n f ds some = some r) : acall tab L n f ds = some r := by
  rw [acallK_ok tab L n f ds some] at h
  simpa using h
end Go.Proofs.Ytjejjokdbbedlaa.Vm
