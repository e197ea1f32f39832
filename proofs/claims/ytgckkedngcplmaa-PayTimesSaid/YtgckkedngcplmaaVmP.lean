/- The pure machine's runs told by what is done with their end: the same runs, whose branches over open data stand in front. No condition. -/
import Derived.Test.YtgckkedngcplmaaVmB
namespace Go.Proofs.Ytgckkedngcplmaa.Vm
open Go Go.RowKit
set_option linter.unusedVariables false
set_option linter.unusedSimpArgs false

/-- a lookup, ahead of what is done with it -/
def look {α : Type} (o : Option α) (k : α → Option DV) : Option DV :=
  match o with
  | some x => k x
  | none => none
theorem look_eq {α : Type} (o : Option α) (k : α → Option DV) : look o k = o.bind k := by cases o <;> rfl
@[simp] theorem look_some {α : Type} (x : α) (k : α → Option DV) : look (some x) k = k x := rfl
@[simp] theorem look_none {α : Type} (k : α → Option DV) : look none k = none := rfl

def iaddrK (sz : Nat) (x i : AV) (k : AV → Option DV) : Option DV :=
  match x, i with
  | .d (.sl _ sz' es), .d (.int _ n) =>
    if sz = sz' then cond (decide (0 ≤ n)) (look es[n.toNat]? fun e => k (.d (.rptr e 0))) none else none
  | .aref s sz' off len, .d (.int _ n) =>
    if sz = sz' then cond (decide (0 ≤ n)) (cond (decide (n < len)) (k (.ptr s sz (off + n.toNat) 0)) none) none else none
  | _, _ => none
theorem iaddrK_eq (sz : Nat) (x i : AV) (k : AV → Option DV) : iaddrK sz x i k = (aIaddr sz x i).bind k := by
  cases x with
  | d x =>
    cases x with
    | sl q sz' es =>
      cases i with
      | d y =>
        cases y with
        | int q n =>
          simp only [iaddrK, aIaddr]
          by_cases h : sz = sz'
          · by_cases h2 : 0 ≤ n
            · simp only [h, h2, decide_true, cond_true, look_eq, if_true, and_self]
              cases es[n.toNat]? <;> rfl
            · simp [h, h2]
          · simp [h]
        | _ => rfl
      | _ => rfl
    | _ => rfl
  | aref s sz' off len =>
    cases i with
    | d y =>
      cases y with
      | int q n =>
        simp only [iaddrK, aIaddr]
        by_cases h : sz = sz'
        · by_cases h2 : 0 ≤ n
          · by_cases h3 : n < len
            · simp [h, h2, h3]
            · simp [h, h2, h3]
          · simp [h, h2]
        · simp [h]
      | _ => rfl
    | _ => rfl
  | _ => rfl

def valDK (agg : Bool) (sz off : Nat) (e : List DV) (k : AV → Option DV) : Option DV :=
  cond agg (cond (decide (off + sz ≤ e.length)) (k (.d (.agg ((e.drop off).take sz)))) none) (look e[off]? fun c => k (.d c))
theorem valDK_eq (agg : Bool) (sz off : Nat) (e : List DV) (k : AV → Option DV) : valDK agg sz off e k = (valD agg sz off e).bind k := by
  unfold valDK valD
  cases agg
  · simp only [cond_false, look_eq, Bool.false_eq_true, if_false]
    cases e[off]? <;> rfl
  · by_cases h : off + sz ≤ e.length <;> simp [h]
def valAK (agg : Bool) (sz off : Nat) (e : List AV) (k : AV → Option DV) : Option DV :=
  cond agg (cond (decide (off + sz ≤ e.length)) (k (.agg ((e.drop off).take sz))) none) (look e[off]? k)
theorem valAK_eq (agg : Bool) (sz off : Nat) (e : List AV) (k : AV → Option DV) : valAK agg sz off e k = (valA agg sz off e).bind k := by
  unfold valAK valA
  cases agg
  · simp only [cond_false, look_eq, Bool.false_eq_true, if_false]
  · by_cases h : off + sz ≤ e.length <;> simp [h]
def loadK (st : St) (agg : Bool) (sz : Nat) (x : AV) (k : AV → Option DV) : Option DV :=
  match x with
  | .d (.rptr e off) => valDK agg sz off e k
  | .ptr s sz' i off =>
    match st.seg s with
    | some (.dat _ sz'' es) => if sz' = sz'' then look es[i]? fun e => valDK agg sz off e k else none
    | some (.mix _ sz'' es) => if sz' = sz'' then look es[i]? fun e => valAK agg sz off e k else none
    | none => none
  | _ => none
theorem loadK_eq (st : St) (agg : Bool) (sz : Nat) (x : AV) (k : AV → Option DV) : loadK st agg sz x k = (aLoad st agg sz x).bind k := by
  cases x with
  | d x =>
    cases x with
    | rptr e off => exact valDK_eq _ _ _ _ _
    | _ => rfl
  | ptr s sz' i off =>
    simp only [loadK, aLoad]
    cases h : st.seg s with
    | none => rfl
    | some o =>
      cases o with
      | dat el sz'' es =>
        simp only
        split
        · simp only [look_eq, valDK_eq]
          cases es[i]? <;> rfl
        · rfl
      | mix el sz'' es =>
        simp only
        split
        · simp only [look_eq, valAK_eq]
          cases es[i]? <;> rfl
        · rfl
  | _ => rfl

def binK (op : BinOp) (x y : AV) (k : AV → Option DV) : Option DV :=
  match x, y with
  | .d (.int q m), .d (.int q' n) =>
    if q = q' then
      match op with
      | .quo => cond (decide (n = 0)) none (k (.d (.int q (q.wrap (m.tdiv n)))))
      | .rem => cond (decide (n = 0)) none (k (.d (.int q (m.tmod n))))
      | op => look (intBin op q m n) fun v => k (.d v)
    else none
  | _, _ => none
theorem binK_eq (op : BinOp) (x y : AV) (k : AV → Option DV) : binK op x y k = (aBin op x y).bind k := by
  cases x with
  | d x =>
    cases x with
    | int q m =>
      cases y with
      | d y =>
        cases y with
        | int q' n =>
          simp only [binK, aBin]
          by_cases h : q = q'
          · rw [if_pos h, if_pos h]
            cases op <;> first
              | (by_cases h0 : n = 0 <;> simp [intBin, h0]; done)
              | (simp only [look_eq]; rfl)
              | (simp only [look_eq, intBin, Option.bind_some, Option.map_some])
          · rw [if_neg h, if_neg h]
            rfl
        | _ => rfl
      | _ => rfl
    | _ => rfl
  | _ => rfl
def shfK (op : BinOp) (x y : AV) (k : AV → Option DV) : Option DV :=
  match x, y with
  | .d (.int q m), .d (.int _ n) =>
    cond (decide (n < 0)) none (match op with
      | .shl => k (.d (.int q (q.wrap (m * 2 ^ (min n.toNat q.bits)))))
      | .shr => k (.d (.int q (m.fdiv (2 ^ (min n.toNat q.bits)))))
      | _ => none)
  | _, _ => none
theorem shfK_eq (op : BinOp) (x y : AV) (k : AV → Option DV) : shfK op x y k = (aShift op x y).bind k := by
  cases x with
  | d x =>
    cases x with
    | int q m =>
      cases y with
      | d y =>
        cases y with
        | int q' n =>
          simp only [shfK, aShift]
          by_cases h : n < 0
          · simp [intShift, h]
          · cases op <;> simp [intShift, h]
        | _ => rfl
      | _ => rfl
    | _ => rfl
  | _ => rfl
def pickK (st : St) (c a b : AX) (k : AV → Option DV) : Option DV :=
  match c with
  | .t t =>
    match st.env t with
    | .d (.bool cb) =>
      match a.ev (st.under t true), b.ev (st.under t false) with
      | .d (.bool x), .d (.bool y) => k (.d (.bool (cond cb x y)))
      | .d (.int q x), .d (.int q' y) => if q = q' then k (.d (.int q (cond cb x y))) else none
      | x, y => cond cb (k x) (k y)
    | _ => none
  | _ => none
theorem pickK_eq (st : St) (c a b : AX) (k : AV → Option DV) : pickK st c a b k = (aVal st (.pick c a b)).bind k := by
  cases c with
  | t t =>
    simp only [pickK, aVal]
    generalize st.env t = x
    cases x with
    | d x =>
      cases x with
      | bool cb =>
        simp only
        generalize a.ev (st.under t true) = p
        generalize b.ev (st.under t false) = q
        have other : cond cb (k p) (k q) = (some (if cb = true then p else q)).bind k := by cases cb <;> rfl
        cases p with
        | d p =>
          cases q with
          | d q => cases p <;> cases q <;> first | exact other | rfl | (simp only; split <;> rfl)
          | _ => cases p <;> exact other
        | _ => exact other
      | _ => rfl
    | _ => rfl
  | _ => rfl

def optK (st : St) (x : Option AX) (k : Option Int → Option DV) : Option DV :=
  match x with
  | none => k none
  | some x => match x.ev st with | .d (.int _ n) => k (some n) | _ => none
theorem optK_eq (st : St) (x : Option AX) (k : Option Int → Option DV) : optK st x k = (optInt st x).bind k := by
  cases x with
  | none => rfl
  | some x =>
    simp only [optK, optInt]
    generalize x.ev st = v
    cases v with
    | d v => cases v <;> rfl
    | _ => rfl
def sliceK1 (sz : Nat) (x : AV) (lo hi mx : Option Int) (k : AV → Option DV) : Option DV :=
  match x with
  | .d .nilsl => cond (decide (lo.getD 0 = 0 ∧ hi.getD 0 = 0 ∧ mx.getD 0 = 0 ∧ (mx.isSome → hi.isSome))) (k (.d .nilsl)) none
  | .d (.sl q sz' es) =>
    if sz = sz' then
      cond (decide (0 ≤ lo.getD 0)) (cond (decide (lo.getD 0 ≤ hi.getD es.length)) (cond (decide (hi.getD es.length ≤ es.length))
        (match mx with
         | none => cond (decide (hi.getD es.length = es.length ∧ q = .tight)) (k (.d (.sl .tight sz ((es.take (hi.getD es.length).toNat).drop (lo.getD 0).toNat)))) (k (.d (.sl .ro sz ((es.take (hi.getD es.length).toNat).drop (lo.getD 0).toNat))))
         | some m => cond (decide (hi.isSome ∧ m = hi.getD es.length)) (k (.d (.sl .tight sz ((es.take (hi.getD es.length).toNat).drop (lo.getD 0).toNat)))) none) none) none) none
    else none
  | .aref s sz' off n =>
    if sz = sz' ∧ mx = none then
      cond (decide (0 ≤ lo.getD 0)) (cond (decide (lo.getD 0 ≤ hi.getD n)) (cond (decide (hi.getD n ≤ n)) (cond (decide (lo.getD 0 < hi.getD n ∨ lo.getD 0 = 0))
        (k (.aref s sz (off + (lo.getD 0).toNat) (hi.getD n - lo.getD 0).toNat)) none) none) none) none
    else none
  | _ => none
def sliceK (st : St) (sz : Nat) (x : AV) (lo hi mx : Option AX) (k : AV → Option DV) : Option DV :=
  optK st lo fun lo => optK st hi fun hi => optK st mx fun mx => sliceK1 sz x lo hi mx k
theorem sliceK_eq (st : St) (sz : Nat) (x : AV) (lo hi mx : Option AX) (k : AV → Option DV) : sliceK st sz x lo hi mx k = (aSlice st sz x lo hi mx).bind k := by
  unfold sliceK aSlice
  simp only [optK_eq]
  cases optInt st lo with
  | none => rfl
  | some lo =>
    cases optInt st hi with
    | none => rfl
    | some hi =>
      cases optInt st mx with
      | none => rfl
      | some mx =>
        simp only [Option.bind_some]
        cases x with
        | d x =>
          cases x with
          | nilsl =>
            simp only [sliceK1]
            by_cases h : (lo.getD 0 = 0 ∧ hi.getD 0 = 0 ∧ mx.getD 0 = 0 ∧ (mx.isSome = true → hi.isSome = true))
            · rw [if_pos h, decide_eq_true h]; rfl
            · rw [if_neg h, decide_eq_false h]; rfl
          | sl q sz' es =>
            simp only [sliceK1]
            by_cases h1 : sz = sz'
            · by_cases h2 : 0 ≤ lo.getD 0
              · by_cases h3 : lo.getD 0 ≤ hi.getD es.length
                · by_cases h4 : hi.getD es.length ≤ es.length
                  · rw [if_pos h1, if_pos ⟨h1, h2, h3, h4⟩, decide_eq_true h2, decide_eq_true h3, decide_eq_true h4]
                    simp only [cond_true]
                    cases mx with
                    | none =>
                      simp only
                      by_cases h5 : hi.getD es.length = es.length ∧ q = .tight
                      · rw [decide_eq_true h5, if_pos h5]; rfl
                      · rw [decide_eq_false h5, if_neg h5]; rfl
                    | some m =>
                      simp only
                      by_cases h5 : hi.isSome = true ∧ m = hi.getD es.length
                      · rw [decide_eq_true h5, if_pos h5]; rfl
                      · rw [decide_eq_false h5, if_neg h5]; rfl
                  · rw [if_pos h1, if_neg fun h => h4 h.2.2.2, decide_eq_true h2, decide_eq_true h3, decide_eq_false h4]; rfl
                · rw [if_pos h1, if_neg fun h => h3 h.2.2.1, decide_eq_true h2, decide_eq_false h3]; rfl
              · rw [if_pos h1, if_neg fun h => h2 h.2.1, decide_eq_false h2]; rfl
            · rw [if_neg h1, if_neg fun h => h1 h.1]; rfl
          | _ => rfl
        | aref s sz' off n =>
          simp only [sliceK1]
          by_cases h1 : sz = sz' ∧ mx = none
          · by_cases h2 : 0 ≤ lo.getD 0
            · by_cases h3 : lo.getD 0 ≤ hi.getD n
              · by_cases h4 : hi.getD n ≤ n
                · by_cases h5 : (lo.getD 0 < hi.getD n ∨ lo.getD 0 = 0)
                  · rw [if_pos h1, if_pos ⟨h1.1, h2, h3, h4, h1.2, h5⟩, decide_eq_true h2, decide_eq_true h3, decide_eq_true h4, decide_eq_true h5]; rfl
                  · rw [if_pos h1, if_neg fun h => h5 h.2.2.2.2.2, decide_eq_true h2, decide_eq_true h3, decide_eq_true h4, decide_eq_false h5]; rfl
                · rw [if_pos h1, if_neg fun h => h4 h.2.2.2.1, decide_eq_true h2, decide_eq_true h3, decide_eq_false h4]; rfl
              · rw [if_pos h1, if_neg fun h => h3 h.2.2.1, decide_eq_true h2, decide_eq_false h3]; rfl
            · rw [if_pos h1, if_neg fun h => h2 h.2.1, decide_eq_false h2]; rfl
          · rw [if_neg h1, if_neg fun h => h1 ⟨h.1, h.2.2.2.2.1⟩]; rfl
        | _ => rfl

/-- the branch on a guard -/
def knowK (st : St) (t : Nat) (want : Bool) (kt kf : St → Option DV) : Option DV :=
  match st.env t with
  | .d (.bool b) => cond b (cond want (kt (st.know t true)) (kf (st.know t true))) (cond want (kf (st.know t false)) (kt (st.know t false)))
  | _ => none
def branchK (st : St) : Nat → Bool → List (Nat × Bool) → (St → Option DV) → (St → Option DV) → Option DV
  | t, want, [], kt, kf => knowK st t want kt kf
  | t, want, (t', want') :: up, kt, kf =>
    match st.env t with
    | .d _ => knowK st t want kt kf
    | .w t1 w1 _ => if t1 = t' ∧ w1 = want' then branchK st t' want' up (fun st1 => knowK st1 t want kt kf) kf else none
    | _ => none
theorem knowK_eq (st : St) (t : Nat) (want b : Bool) (kt kf : St → Option DV) (h : st.env t = .d (.bool b)) : knowK st t want kt kf = (if b == want then kt (st.know t b) else kf (st.know t b)) := by
  simp only [knowK, h]
  cases b <;> cases want <;> rfl
theorem knowK_none (st : St) (t : Nat) (want : Bool) (kt kf : St → Option DV) (h : ∀ b, st.env t ≠ .d (.bool b)) : knowK st t want kt kf = none := by
  unfold knowK
  split
  · rename_i b hb
    exact absurd hb (h b)
  · rfl
def endB (kt kf : St → Option DV) : Option (Bool × St) → Option DV
  | some (true, s) => kt s
  | some (false, s) => kf s
  | none => none
theorem branchK_eq (st : St) : ∀ (up : List (Nat × Bool)) (t : Nat) (want : Bool) (kt kf : St → Option DV), branchK st t want up kt kf = endB kt kf (st.branch t want up)
  | [], t, want, kt, kf => by
    simp only [branchK, St.branch]
    cases h : st.env t with
    | d x =>
      cases x with
      | bool b =>
        rw [knowK_eq st t want b kt kf h]
        simp only
        cases hb : (b == want) <;> rfl
      | _ => exact knowK_none _ _ _ _ _ fun b hb => by simp [h] at hb
    | _ => exact knowK_none _ _ _ _ _ fun b hb => by simp [h] at hb
  | (t', want') :: up, t, want, kt, kf => by
    simp only [branchK, St.branch]
    cases h : st.env t with
    | d x =>
      cases x with
      | bool b =>
        simp only
        rw [knowK_eq st t want b kt kf h]
        cases hb : (b == want) <;> rfl
      | _ => exact knowK_none _ _ _ _ _ fun b hb => by simp [h] at hb
    | w t1 w1 x =>
      simp only
      by_cases hc : t1 = t' ∧ w1 = want'
      · rw [if_pos hc, if_pos hc, branchK_eq st up]
        cases hb : st.branch t' want' up with
        | none => rfl
        | some r =>
          obtain ⟨r, st1⟩ := r
          cases r with
          | false => rfl
          | true =>
            simp only [endB]
            cases h1 : st1.env t with
            | d x =>
              cases x with
              | bool b =>
                rw [knowK_eq st1 t want b kt kf h1]
                simp only
                cases hb : (b == want) <;> rfl
              | _ => exact knowK_none _ _ _ _ _ fun b hb => by simp [h1] at hb
            | _ => exact knowK_none _ _ _ _ _ fun b hb => by simp [h1] at hb
      · rw [if_neg hc, if_neg hc]
        rfl
    | _ => rfl

/-! ### operations -/
def elemsK (st : St) (sz : Nat) (y : AV) (k : List (List DV) → Option DV) : Option DV :=
  match y with
  | .d .nilsl => k []
  | .d (.sl _ sz' es) => if sz = sz' then k es else none
  | .aref s sz' off len =>
    match st.seg s with
    | some (.dat _ sz'' es) => if sz = sz' ∧ sz = sz'' then cond (decide (off + len ≤ es.length)) (k ((es.drop off).take len)) none else none
    | _ => none
  | _ => none
theorem elemsK_eq (st : St) (sz : Nat) (y : AV) (k : List (List DV) → Option DV) : elemsK st sz y k = (elems st sz y).bind k := by
  cases y with
  | d x =>
    cases x with
    | nilsl => rfl
    | sl q sz' es =>
      simp only [elemsK, elems]
      split <;> rfl
    | _ => rfl
  | aref s sz' off len =>
    simp only [elemsK, elems]
    cases st.seg s with
    | none => rfl
    | some o =>
      cases o with
      | dat el sz'' es =>
        simp only
        by_cases h : sz = sz' ∧ sz = sz''
        · by_cases h2 : off + len ≤ es.length
          · rw [if_pos h, decide_eq_true h2, if_pos ⟨h.1, h.2, h2⟩]; rfl
          · rw [if_pos h, decide_eq_false h2, if_neg fun g => h2 g.2.2]; rfl
        · rw [if_neg h, if_neg fun g => h ⟨g.1, g.2.1⟩]; rfl
      | mix el sz'' es => rfl
  | _ => rfl
def app0K (st : St) (t : Nat) (x : AV) (k : St → Option DV) : Option DV :=
  match x with
  | .d .nilsl => k (st.put t x)
  | .d (.sl _ _ _) => k (st.put t x)
  | .aref _ _ _ _ => k (st.put t x)
  | _ => none
def app1K (st : St) (t el sz bytes : Nat) (x : AV) (news : List (List DV)) (k : St → Option DV) : Option DV :=
  match x with
  | .d .nilsl => cond (decide (news.length * bytes ≤ room ∧ news.length ≤ room)) (k ((st.at_ t (.dat el sz news)).put t (.aref t sz 0 news.length))) none
  | .d (.sl .tight sz' es) =>
    cond (decide (sz' = sz ∧ (es ++ news).length * bytes ≤ room ∧ (es ++ news).length ≤ room ∧ es.all (fun e => e.length == sz && e.all DV.one))) (k ((st.at_ t (.dat el sz (es ++ news))).put t (.aref t sz 0 (es ++ news).length))) none
  | .aref s sz' off len =>
    match st.seg s with
    | some (.dat el' sz'' es) =>
      cond (decide (el' = el ∧ sz' = sz ∧ sz'' = sz ∧ off = 0 ∧ len = es.length ∧ (es ++ news).length * bytes ≤ room ∧ (es ++ news).length ≤ room)) (k (((st.drop s).at_ t (.dat el sz (es ++ news))).put t (.aref t sz 0 (es ++ news).length))) none
    | _ => none
  | _ => none
def appendK (st : St) (t el sz bytes : Nat) (x y : AV) (k : St → Option DV) : Option DV :=
  elemsK st sz y fun news => cond (decide (news.length = 0)) (app0K st t x k) (cond (news.all (fun e => e.length == sz && e.all DV.one)) (app1K st t el sz bytes x news k) none)
theorem cond_dec {p : Prop} [Decidable p] (a b : Option DV) : cond (decide p) a b = if p then a else b := by
  by_cases h : p <;> simp [h]
theorem ite_bind {p : Prop} [Decidable p] (a b : Option St) (k : St → Option DV) : (if p then a else b).bind k = if p then a.bind k else b.bind k := by
  split <;> rfl
theorem appendK_eq (st : St) (t el sz bytes : Nat) (x y : AV) (k : St → Option DV) : appendK st t el sz bytes x y k = (aAppend st t el sz bytes x y).bind k := by
  unfold appendK aAppend
  rw [elemsK_eq]
  cases elems st sz y with
  | none => rfl
  | some news =>
    simp only [Option.bind_some, cond_dec, ite_bind]
    by_cases h0 : news.length = 0
    · rw [if_pos h0, if_pos h0]
      cases x with
      | d x => cases x <;> rfl
      | _ => rfl
    · rw [if_neg h0, if_neg h0]
      by_cases h1 : news.all (fun e => e.length == sz && e.all DV.one) = true
      · rw [h1, if_pos rfl]
        simp only [cond_true]
        cases x with
        | d x =>
          cases x with
          | nilsl => simp only [app1K, cond_dec, ite_bind]; rfl
          | sl q sz' es =>
            cases q with
            | tight => simp only [app1K, cond_dec, ite_bind]; rfl
            | _ => rfl
          | _ => rfl
        | aref s sz' off len =>
          simp only [app1K]
          cases st.seg s with
          | none => rfl
          | some o =>
            cases o with
            | dat el' sz'' es => simp only [cond_dec, ite_bind]; rfl
            | mix el' sz'' es => rfl
        | _ => rfl
      · have h1' : news.all (fun e => e.length == sz && e.all DV.one) = false := by simpa using h1
        rw [if_neg h1, h1']
        rfl

def putRow (st : St) (s el sz : Nat) (es : List (List DV)) (i off : Nat) (e : List DV) (cs : List AV) (k : St → Option DV) : Option DV :=
  match datL cs with
  | some ds => k (st.upd s (.dat el sz (es.set i (splice e off ds))))
  | none => k (st.upd s (.mix el sz ((es.map (·.map AV.d)).set i (splice (e.map AV.d) off cs))))
def storeK (st : St) (sz : Nat) (a x : AV) (k : St → Option DV) : Option DV :=
  match a with
  | .ptr s sz' i off =>
    if x.cells.length = sz ∧ x.cells.all AV.one then
      match st.seg s with
      | some (.dat el sz'' es) => if sz' = sz'' then look es[i]? fun e => cond (decide (off + sz ≤ e.length)) (putRow st s el sz'' es i off e x.cells k) none else none
      | some (.mix el sz'' es) => if sz' = sz'' then look es[i]? fun e => cond (decide (off + sz ≤ e.length)) (k (st.upd s (.mix el sz'' (es.set i (splice e off x.cells))))) none else none
      | none => none
    else none
  | _ => none
theorem storeK_eq (st : St) (sz : Nat) (a x : AV) (k : St → Option DV) : storeK st sz a x k = (aStore st sz a x).bind k := by
  cases a with
  | ptr s sz' i off =>
    simp only [storeK, aStore]
    by_cases hc : x.cells.length = sz ∧ x.cells.all AV.one = true
    · rw [if_pos hc, if_pos hc]
      cases st.seg s with
      | none => rfl
      | some o =>
        cases o with
        | dat el sz'' es =>
          simp only
          by_cases h1 : sz' = sz''
          · rw [if_pos h1, if_pos h1, look_eq]
            cases es[i]? with
            | none => rfl
            | some e =>
              simp only [Option.bind_some, cond_dec, ite_bind]
              split
              · unfold putRow
                cases datL x.cells <;> rfl
              · rfl
          · rw [if_neg h1, if_neg h1]; rfl
        | mix el sz'' es =>
          simp only
          by_cases h1 : sz' = sz''
          · rw [if_pos h1, if_pos h1, look_eq]
            cases es[i]? with
            | none => rfl
            | some e =>
              simp only [Option.bind_some, cond_dec, ite_bind]
              rfl
          · rw [if_neg h1, if_neg h1]; rfl
    · rw [if_neg hc, if_neg hc]; rfl
  | _ => rfl
def mksliceK (st : St) (t el sz bytes : Nat) (z : List DV) (l c : AV) (k : St → Option DV) : Option DV :=
  match l, c with
  | .d (.int _ m), .d (.int _ n) =>
    cond (decide (m = n ∧ 0 ≤ n ∧ n.toNat * bytes ≤ room ∧ n.toNat ≤ room ∧ z.length = sz ∧ z.all DV.one)) (k ((st.at_ t (.dat el sz (List.replicate n.toNat z))).put t (.aref t sz 0 n.toNat))) none
  | _, _ => none

abbrev CallK := FuncId → List DV → (DV → Option DV) → Option DV
def CallK.ok (call : FuncId → List DV → Option DV) (callK : CallK) : Prop := ∀ f ds k, callK f ds k = (call f ds).bind k

def opK (call : FuncId → List DV → Option DV) (callK : CallK) (dst : Option Nat) (op : AOp) (st : St) (k : St → Option DV) : Option DV :=
  match op, dst with
  | .store sz a x, none => storeK st sz (a.ev st) (x.ev st) k
  | .mkslice el sz bytes z l c, some t => mksliceK st t el sz bytes z (l.ev st) (c.ev st) k
  | .append el sz bytes x y, some t => appendK st t el sz bytes (x.ev st) (y.ev st) k
  | .call f args, some t =>
    (match mapO (snap st) (args.map (·.ev st)) with
     | some ds => callK f ds fun r => k (got t (args.map (·.ev st)) r st)
     | none => none)
  | .dcall g args, some t =>
    (match snap st (g.ev st), mapO (snap st) (args.map (·.ev st)) with
     | some (.func f caps), some ds => callK f (ds ++ caps) fun r => k (got t (g.ev st :: args.map (·.ev st)) r st)
     | _, _ => none)
  | .iaddr sz x i, some t => iaddrK sz (x.ev st) (i.ev st) fun v => k (st.put t v.strip)
  | .load g sz x, some t => loadK st g sz (x.ev st) fun v => k (st.put t v.strip)
  | .bin op x y, some t => binK op (x.ev st) (y.ev st) fun v => k (st.put t v.strip)
  | .shf op x y, some t => shfK op (x.ev st) (y.ev st) fun v => k (st.put t v.strip)
  | .pick c a b, some t => pickK st c a b fun v => k (st.put t v.strip)
  | .slice sz x lo hi mx, some t => sliceK st sz (x.ev st) lo hi mx fun v => k (st.put t v.strip)
  | op, dst => look (opStep call dst op st) k
theorem opK_eq {call : FuncId → List DV → Option DV} {callK : CallK} (hK : CallK.ok call callK) (dst : Option Nat) (op : AOp) (st : St) (k : St → Option DV) : opK call callK dst op st k = (opStep call dst op st).bind k := by
  have put : ∀ (o : Option AV) (t : Nat), (o.map fun v => st.put t v.strip).bind k = o.bind fun v => k (st.put t v.strip) := fun o t => by cases o <;> rfl
  have other : look (opStep call dst op st) k = (opStep call dst op st).bind k := look_eq _ _
  cases op <;> cases dst <;> first
    | exact other
    | skip
  case store.none sz a x => exact storeK_eq _ _ _ _ _
  case mkslice.some el sz bytes z l c t =>
    simp only [opK, opStep, mksliceK]
    generalize l.ev st = lv
    generalize c.ev st = cv
    cases lv with
    | d lv =>
      cases lv with
      | int q m =>
        cases cv with
        | d cv =>
          cases cv with
          | int q' n => simp only [cond_dec, ite_bind]; rfl
          | _ => rfl
        | _ => rfl
      | _ => rfl
    | _ => rfl
  case append.some el sz bytes x y t => exact appendK_eq _ _ _ _ _ _ _ _
  case call.some f args t =>
    simp only [opK, opStep]
    cases mapO (snap st) (args.map (·.ev st)) with
    | none => rfl
    | some ds =>
      simp only
      rw [hK f ds _]
      cases call f ds <;> rfl
  case dcall.some g args t =>
    simp only [opK, opStep]
    cases snap st (g.ev st) with
    | none => rfl
    | some gv =>
      cases gv with
      | func f caps =>
        cases mapO (snap st) (args.map (·.ev st)) with
        | none => rfl
        | some ds =>
          simp only
          rw [hK f (ds ++ caps) _]
          cases call f (ds ++ caps) <;> rfl
      | _ => rfl
  case iaddr.some sz x i t => simp only [opK, opStep, iaddrK_eq, aVal, put]
  case load.some g sz x t => simp only [opK, opStep, loadK_eq, aVal, put]
  case bin.some op x y t => simp only [opK, opStep, binK_eq, aVal, put]
  case shf.some op x y t => simp only [opK, opStep, shfK_eq, aVal, put]
  case pick.some c a b t => simp only [opK, opStep, pickK_eq, put]
  case slice.some sz x lo hi mx t => simp only [opK, opStep, sliceK_eq, aVal, put]

/-- the value of an operation that changes no object -/
def gValK (call : FuncId → List DV → Option DV) (callK : CallK) (op : AOp) (st : St) (k : AV → Option DV) : Option DV :=
  match op with
  | .iaddr sz x i => iaddrK sz (x.ev st) (i.ev st) k
  | .load g sz x => loadK st g sz (x.ev st) k
  | .bin op x y => binK op (x.ev st) (y.ev st) k
  | .shf op x y => shfK op (x.ev st) (y.ev st) k
  | .pick c a b => pickK st c a b k
  | .slice sz x lo hi mx => sliceK st sz (x.ev st) lo hi mx k
  | .call f args =>
    (match mapO (snap st) (args.map (·.ev st)) with
     | some ds => callK f ds fun r => cond (anySiteL (args.map (·.ev st)) && !r.plain) none (k (.d (roTop r)))
     | none => none)
  | .dcall g args =>
    (match snap st (g.ev st), mapO (snap st) (args.map (·.ev st)) with
     | some (.func f caps), some ds => callK f (ds ++ caps) fun r => cond (anySiteL (g.ev st :: args.map (·.ev st)) && !r.plain) none (k (.d (roTop r)))
     | _, _ => none)
  | op => look (gVal call op st) k
theorem gValK_eq {call : FuncId → List DV → Option DV} {callK : CallK} (hK : CallK.ok call callK) (op : AOp) (st : St) (k : AV → Option DV) : gValK call callK op st k = (gVal call op st).bind k := by
  have other : look (gVal call op st) k = (gVal call op st).bind k := look_eq _ _
  have fin : ∀ (b : Bool) (r : DV), cond b none (k (.d (roTop r))) = (if b then none else some (AV.d (roTop r))).bind k := by intro b r; cases b <;> rfl
  cases op <;> first
    | exact other
    | skip
  case iaddr sz x i => exact iaddrK_eq _ _ _ _
  case load g sz x => exact loadK_eq _ _ _ _ _
  case bin op x y => exact binK_eq _ _ _ _
  case shf op x y => exact shfK_eq _ _ _ _
  case pick c a b => exact pickK_eq _ _ _ _ _
  case slice sz x lo hi mx => exact sliceK_eq _ _ _ _ _ _ _
  case call f args =>
    simp only [gValK, gVal]
    cases mapO (snap st) (args.map (·.ev st)) with
    | none => rfl
    | some ds =>
      simp only
      rw [hK f ds _]
      cases call f ds with
      | none => rfl
      | some r => exact fin _ r
  case dcall g args =>
    simp only [gValK, gVal]
    cases snap st (g.ev st) with
    | none => rfl
    | some gv =>
      cases gv with
      | func f caps =>
        cases mapO (snap st) (args.map (·.ev st)) with
        | none => rfl
        | some ds =>
          simp only
          rw [hK f (ds ++ caps) _]
          cases call f (ds ++ caps) with
          | none => rfl
          | some r => exact fin _ r
      | _ => rfl

def insK (call : FuncId → List DV → Option DV) (callK : CallK) (i : AIns) (st : St) (k : St → Option DV) : Option DV :=
  match i.g with
  | none => opK call callK i.dst i.op st k
  | some (t, want) =>
    cond i.tot
      (match st.hypL t want i.up, i.dst with
       | some h, some d =>
         (match gVal call i.op h with
          | some v => k (st.put d (.w t want v))
          | none => cond (st.dead t want i.up) (k (st.put d (.w t want .undef))) none)
       | _, _ => none)
      (branchK st t want i.up (fun st1 => opK call callK i.dst i.op st1 k) (fun st1 => k (st1.putO i.dst (.w t want .undef))))
theorem insK_eq {call : FuncId → List DV → Option DV} {callK : CallK} (hK : CallK.ok call callK) (i : AIns) (st : St) (k : St → Option DV) : insK call callK i st k = (insStep call i st).bind k := by
  unfold insK insStep
  cases i.g with
  | none => exact opK_eq hK _ _ _ _
  | some tw =>
    obtain ⟨t, want⟩ := tw
    simp only
    cases i.tot with
    | true =>
      simp only [cond_true, if_true]
      cases st.hypL t want i.up with
      | none => rfl
      | some h =>
        cases i.dst with
        | none => rfl
        | some d =>
          simp only
          cases gVal call i.op h with
          | some v => rfl
          | none =>
            simp only
            cases st.dead t want i.up <;> rfl
    | false =>
      simp only [cond_false, Bool.false_eq_true, if_false]
      rw [branchK_eq]
      cases st.branch t want i.up with
      | none => rfl
      | some r =>
        obtain ⟨r, st1⟩ := r
        cases r with
        | false => rfl
        | true => exact opK_eq hK _ _ _ _
def runK (call : FuncId → List DV → Option DV) (callK : CallK) : List AIns → St → (St → Option DV) → Option DV
  | [], st, k => k st
  | i :: l, st, k => insK call callK i st fun st1 => runK call callK l st1 k
theorem runK_eq {call : FuncId → List DV → Option DV} {callK : CallK} (hK : CallK.ok call callK) : ∀ (l : List AIns) (st : St) (k : St → Option DV), runK call callK l st k = (runIns call l st).bind k
  | [], st, k => rfl
  | i :: l, st, k => by
    simp only [runK, runIns]
    rw [insK_eq hK]
    cases insStep call i st with
    | none => rfl
    | some st1 => exact runK_eq hK l st1 k

def vResK (call : FuncId → List DV → Option DV) (callK : CallK) (i : AIns) (st : St) (k : AV → Option DV) : Option DV :=
  match i.g with
  | none => gValK call callK i.op st fun v => k v.strip
  | some (t, want) =>
    match st.hypL t want i.up with
    | some h =>
      cond i.tot
        (match gVal call i.op h with
         | some v => k (.w t want v)
         | none => cond (st.dead t want i.up) (k (.w t want .undef)) none)
        (cond (st.dead t want i.up) (k (.w t want .undef)) (gValK call callK i.op h fun v => k (.w t want v)))
    | none => none
theorem vResK_eq {call : FuncId → List DV → Option DV} {callK : CallK} (hK : CallK.ok call callK) (i : AIns) (st : St) (k : AV → Option DV) : vResK call callK i st k = (vRes call i st).bind k := by
  unfold vResK vRes
  cases i.g with
  | none =>
    simp only
    rw [gValK_eq hK]
    cases gVal call i.op st <;> rfl
  | some tw =>
    obtain ⟨t, want⟩ := tw
    simp only
    cases st.hypL t want i.up with
    | none => rfl
    | some h =>
      simp only
      cases i.tot with
      | true =>
        simp only [cond_true, if_true]
        cases gVal call i.op h with
        | some v => rfl
        | none =>
          simp only
          cases st.dead t want i.up <;> rfl
      | false =>
        simp only [cond_false, Bool.false_eq_true, if_false]
        cases st.dead t want i.up with
        | true => rfl
        | false =>
          simp only [cond_false, Bool.false_eq_true, if_false]
          rw [gValK_eq hK]
          cases gVal call i.op h <;> rfl
def dStepK (call : FuncId → List DV → Option DV) (callK : CallK) (i : AIns) (st : St) (k : St → Option DV) : Option DV :=
  match i.op with
  | .store sz a x => (match i.g, i.dst with
    | none, none => storeK st sz (a.ev st) (x.ev st) k
    | _, _ => none)
  | _ => (match i.dst with
    | some d => vResK call callK i st fun v => k (st.put d v)
    | none => none)
theorem dStepK_eq {call : FuncId → List DV → Option DV} {callK : CallK} (hK : CallK.ok call callK) (i : AIns) (st : St) (k : St → Option DV) : dStepK call callK i st k = (dStep call i st).bind k := by
  have v : (match i.dst with
    | some d => vResK call callK i st fun v => k (st.put d v)
    | none => none) = (vStep call i st).bind k := by
    unfold vStep
    cases i.dst with
    | none => rfl
    | some d =>
      simp only
      rw [vResK_eq hK]
      cases vRes call i st <;> rfl
  unfold dStepK dStep
  cases i.op <;> first
    | exact v
    | skip
  simp only
  cases i.g with
  | none =>
    cases i.dst with
    | none => exact storeK_eq _ _ _ _ _
    | some d => rfl
  | some tw => rfl
def runDK (call : FuncId → List DV → Option DV) (callK : CallK) : List AIns → St → (St → Option DV) → Option DV
  | [], st, k => k st
  | i :: l, st, k => dStepK call callK i st fun st1 => runDK call callK l st1 k
theorem runDK_eq {call : FuncId → List DV → Option DV} {callK : CallK} (hK : CallK.ok call callK) : ∀ (l : List AIns) (st : St) (k : St → Option DV), runDK call callK l st k = (runD call l st).bind k
  | [], st, k => rfl
  | i :: l, st, k => by
    simp only [runDK, runD]
    rw [dStepK_eq hK]
    cases dStep call i st with
    | none => rfl
    | some st1 => exact runDK_eq hK l st1 k

/-! ### code -/
abbrev Kont := Ex → St → Option DV
def iterK (f : St → Kont → Option DV) : Nat → St → Kont → Option DV
  | 0, _, _ => none
  | n + 1, st, k => f st fun e st1 => match e with | .nrm => iterK f n st1 k | e => k e st1
def execK (call : FuncId → List DV → Option DV) (callK : CallK) (L : Nat) : AC → St → Kont → Option DV
  | .skip, st, k => k .nrm st
  | .reg ops, st, k => runK call callK ops st (k .nrm)
  | .dreg ops dyn, st, k => runDK call callK ops st fun st1 => cond (dyn.all (dynOk st1)) (k .nrm st1) none
  | .seq a b, st, k => execK call callK L a st fun e st1 => match e with | .nrm => execK call callK L b st1 k | e => k e st1
  | .cond c a b, st, k =>
    match c.ev st with
    | .d (.bool t) => cond t (execK call callK L a st k) (execK call callK L b st k)
    | _ => none
  | .block id b, st, k => execK call callK L b st fun e st1 => match e with | .ex id' => if id' = id then k .nrm st1 else k (.ex id') st1 | e => k e st1
  | .loop b, st, k => iterK (execK call callK L b) L st k
  | .exit id, st, k => k (.ex id) st
  | .ret, st, k => k .ret st
def fin (k : Kont) : Option (Ex × St) → Option DV
  | some (e, st) => k e st
  | none => none
theorem iterK_eq {f : St → Option (Ex × St)} {fK : St → Kont → Option DV} (h : ∀ st k, fK st k = fin k (f st)) : ∀ (n : Nat) (st : St) (k : Kont), iterK fK n st k = fin k (iter f n st)
  | 0, st, k => rfl
  | n + 1, st, k => by
    simp only [iterK, iter, h]
    cases f st with
    | none => rfl
    | some r =>
      obtain ⟨e, st1⟩ := r
      cases e with
      | nrm => exact iterK_eq h n st1 k
      | _ => rfl
theorem execK_eq {call : FuncId → List DV → Option DV} {callK : CallK} (hK : CallK.ok call callK) (L : Nat) : ∀ (c : AC) (st : St) (k : Kont), execK call callK L c st k = fin k (exec call L c st)
  | .skip, st, k => rfl
  | .reg ops, st, k => by
    simp only [execK, exec]
    rw [runK_eq hK]
    cases runIns call ops st <;> rfl
  | .dreg ops dyn, st, k => by
    simp only [execK, exec]
    rw [runDK_eq hK]
    cases runD call ops st with
    | none => rfl
    | some st1 =>
      simp only [Option.bind_some]
      cases dyn.all (dynOk st1) <;> rfl
  | .seq a b, st, k => by
    simp only [execK, exec]
    rw [execK_eq hK L a]
    cases exec call L a st with
    | none => rfl
    | some r =>
      obtain ⟨e, st1⟩ := r
      cases e with
      | nrm => exact execK_eq hK L b st1 k
      | _ => rfl
  | .cond c a b, st, k => by
    simp only [execK, exec]
    cases c.ev st with
    | d x =>
      cases x with
      | bool t =>
        cases t with
        | true => exact execK_eq hK L a st k
        | false => exact execK_eq hK L b st k
      | _ => rfl
    | _ => rfl
  | .block id b, st, k => by
    simp only [execK, exec]
    rw [execK_eq hK L b]
    cases exec call L b st with
    | none => rfl
    | some r =>
      obtain ⟨e, st1⟩ := r
      cases e with
      | ex id' =>
        simp only [fin]
        split <;> rfl
      | _ => rfl
  | .loop b, st, k => by
    simp only [execK, exec]
    exact iterK_eq (fun st k => execK_eq hK L b st k) L st k
  | .exit id, st, k => rfl
  | .ret, st, k => rfl

def acallK (tab : FuncId → Option AFn) (L : Nat) : Nat → CallK
  | 0, _, _, _ => none
  | n + 1, f, ds, k =>
    match tab f with
    | none => none
    | some fn =>
      if ds.length ≤ fn.ntmps then
        execK (acall tab L n) (acallK tab L n) L fn.body (St.init ds) fun e st => match e with
          | .nrm => look (aRet st fn.res) k
          | .ret => look (aRet st fn.res) k
          | .ex _ => none
      else none
theorem acallK_ok (tab : FuncId → Option AFn) (L : Nat) : ∀ n, CallK.ok (acall tab L n) (acallK tab L n)
  | 0, f, ds, k => rfl
  | n + 1, f, ds, k => by
    simp only [acallK, acall]
    cases tab f with
    | none => rfl
    | some fn =>
      simp only
      split
      · rw [execK_eq (acallK_ok tab L n)]
        cases exec (acall tab L n) L fn.body (St.init ds) with
        | none => rfl
        | some r =>
          obtain ⟨e, st⟩ := r
          cases e with
          | nrm => exact look_eq _ _
          | ret => exact look_eq _ _
          | ex id => rfl
      · rfl
theorem acallK_run {tab : FuncId → Option AFn} {L n : Nat} {f : FuncId} {ds : List DV} {r : DV} (h : acallK tab L n f ds some = some r) : acall tab L n f ds = some r := by
  rw [acallK_ok tab L n f ds some] at h
  simpa using h
end Go.Proofs.Ytgckkedngcplmaa.Vm
