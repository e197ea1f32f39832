/- The pure machine's runs, and how the translated code is compiled to it. No condition. -/
import Derived.Test.YtjejjokdbbedlaaVmA
namespace Go.Proofs.Ytjejjokdbbedlaa.Vm
open Go Go.RowKit
set_option linter.unusedVariables false
set_option linter.unusedSimpArgs false

/-! ### results of calls -/
/-- the cells of a row one by one, the slices that the call owns as objects at sites of their own -/
def placeI (t : Nat) : Nat → List DV → St → List AV × St
  | _, [], st => ([], st)
  | j, .sl (.own el) sz es :: l, st =>
    let r := placeI t (j + 1) l (st.at_ (t + 100000 * j) (.dat el sz es))
    (.aref (t + 100000 * j) sz 0 es.length :: r.1, r.2)
  | j, x :: l, st => let r := placeI t (j + 1) l st; (.d x :: r.1, r.2)
def placeR (t : Nat) : Nat → List (List DV) → St → List (List AV) × St
  | _, [], st => ([], st)
  | j, e :: es, st =>
    let q := placeI t j e st
    let r := placeR t (j + e.length) es q.2
    (q.1 :: r.1, r.2)
def cellsN : List (List DV) → Nat
  | [] => 0
  | e :: es => e.length + cellsN es
/-- the values of a bundle one by one, the slices that the call owns as objects at sites of their own -/
def placeL (t : Nat) : Nat → List DV → St → List AV × St
  | _, [], st => ([], st)
  | j, .sl (.own el) sz es :: l, st =>
    let r := placeL t (j + 1) l (st.at_ (t + 100000 * j) (.dat el sz es))
    (.aref (t + 100000 * j) sz 0 es.length :: r.1, r.2)
  | j, .sl (.own2 el) sz es :: l, st =>
    let q := placeR t (j + 1) es st
    let r := placeL t (j + 1 + cellsN es) l (q.2.at_ (t + 100000 * j) (.mix el sz q.1))
    (.aref (t + 100000 * j) sz 0 es.length :: r.1, r.2)
  | j, x :: l, st => let r := placeL t (j + 1) l st; (.d x :: r.1, r.2)
def place (t : Nat) (r : DV) (st : St) : St :=
  match r with
  | .sl (.own el) sz es => (st.at_ t (.dat el sz es)).put t (.aref t sz 0 es.length)
  | .sl (.own2 el) sz es => let r := placeL t 1 [.sl (.own2 el) sz es] st; r.2.put t (r.1.headD .undef)
  | .tuple vs => if vs.any DV.isOwn then (let r := placeL t 1 vs st; r.2.put t (.tuple r.1)) else st.put t (.d (.tuple vs))
  | .agg vs => if vs.any DV.isOwn then (let r := placeL t 1 vs st; r.2.put t (.agg r.1)) else st.put t (.d (.agg vs))
  | x => st.put t (.d x)
def got (t : Nat) (args : List AV) (r : DV) (st : St) : St :=
  place t r (if anySiteL args && !r.plain then st.freeze else st)

def rowsSet (st : St) (sz : Nat) (rows : List (List AV)) : List (Nat × AX) → Option (List (List AV))
  | [] => some rows
  | (i, x) :: l =>
    let cs := (x.ev st).cells
    if cs.length = sz ∧ i < rows.length ∧ cs.all AV.one then rowsSet st sz (rows.set i cs) l else none
def datLL : List (List AV) → Option (List (List DV))
  | [] => some []
  | e :: l => match datL e, datLL l with | some a, some b => some (a :: b) | _, _ => none
def mkOb (el sz : Nat) (rows : List (List AV)) : Ob :=
  match datLL rows with
  | some ds => .dat el sz ds
  | none => .mix el sz rows
def room : Nat := 1099511627776
def mapO {α β : Type} (f : α → Option β) : List α → Option (List β)
  | [] => some []
  | x :: l => match f x, mapO f l with | some y, some m => some (y :: m) | _, _ => none

/-- elements of a slice that are data -/
def elems (st : St) (sz : Nat) : AV → Option (List (List DV))
  | .d .nilsl => some []
  | .d (.sl _ sz' es) => if sz = sz' then some es else none
  | .d (.sla _ sz' es) => if sz = sz' then some es else none
  | .aref s sz' off len =>
    match st.seg s with
    | some (.dat _ sz'' es) => if sz = sz' ∧ sz = sz'' ∧ off + len ≤ es.length then some ((es.drop off).take len) else none
    | _ => none
  | _ => none

/-- the site of what is appended to an object: not that object's own -/
def alt (s t : Nat) : Nat := cond (Nat.beq s t) (t + 50000) t
def aAppend (st : St) (t el sz bytes : Nat) (x y : AV) : Option St :=
  match elems st sz y with
  | none => none
  | some news =>
    if news.length = 0 then
      (match x with
       | .d .nilsl => some (st.put t x)
       | .d (.sl _ _ _) => some (st.put t x)
       | .d (.sla _ _ _) => some (st.put t x)
       | .aref _ _ _ _ => some (st.put t x)
       | _ => none)
    else if news.all (fun e => e.length == sz && e.all DV.one) then
      match x with
      | .d .nilsl =>
        if news.length * bytes ≤ room ∧ news.length ≤ room then some ((st.at_ t (.dat el sz news)).put t (.aref t sz 0 news.length)) else none
      | .d (.sl .tight sz' es) =>
        if sz' = sz ∧ (es ++ news).length * bytes ≤ room ∧ (es ++ news).length ≤ room ∧ es.all (fun e => e.length == sz && e.all DV.one) then
          some ((st.at_ t (.dat el sz (es ++ news))).put t (.aref t sz 0 (es ++ news).length))
        else none
      | .d (.sla true sz' es) =>
        if sz' = sz ∧ (es ++ news).length * bytes ≤ room ∧ (es ++ news).length ≤ room ∧ es.all (fun e => e.length == sz && e.all DV.one) then
          some ((st.at_ t (.dat el sz (es ++ news))).put t (.aref t sz 0 (es ++ news).length))
        else none
      | .aref s sz' off len =>
        match st.seg s with
        | some (.dat el' sz'' es) =>
          if el' = el ∧ sz' = sz ∧ sz'' = sz ∧ off = 0 ∧ len = es.length ∧ (es ++ news).length * bytes ≤ room ∧ (es ++ news).length ≤ room then
            some (((st.drop s).at_ (alt s t) (.dat el sz (es ++ news))).put t (.aref (alt s t) sz 0 (es ++ news).length))
          else none
        | _ => none
      | _ => none
    else none

/-- what a call gave, in its slot; a slice of the caller's own whose rows name others is not taken where the call was handed objects -/
def gotO (t : Nat) (args : List AV) (r : DV) (st : St) : Option St :=
  if r.isOwn && (anySiteL args && !r.plain) then none else some (got t args r st)
def opStep (call : FuncId → List DV → Option DV) (dst : Option Nat) (op : AOp) (st : St) : Option St :=
  match op, dst with
  | .store sz a x, none => aStore st sz (a.ev st) (x.ev st)
  | .box el sz x, some t =>
    let cs := (x.ev st).cells
    if cs.length = sz ∧ cs.all AV.one ∧ hasL t cs = false then some ((st.at_ t (mkOb el sz [cs])).put t (.ptr t sz 0 0)) else none
  | .alloc el sz z, some t => if z.length = sz ∧ z.all DV.one then some ((st.at_ t (.dat el sz [z])).put t (.ptr t sz 0 0)) else none
  | .bslice el sz len z parts, some t =>
    if z.length = sz ∧ z.all DV.one then
      match rowsSet st sz (List.replicate len (z.map .d)) parts with
      | some rows => if rows.any (hasL t) then none else some ((st.at_ t (mkOb el sz rows)).put t (.aref t sz 0 len))
      | none => none
    else none
  | .mkslice el sz bytes z l c, some t =>
    match l.ev st, c.ev st with
    | .d (.int _ m), .d (.int _ n) =>
      if m = n ∧ 0 ≤ n ∧ n.toNat * bytes ≤ room ∧ n.toNat ≤ room ∧ z.length = sz ∧ z.all DV.one then
        some ((st.at_ t (.dat el sz (List.replicate n.toNat z))).put t (.aref t sz 0 n.toNat))
      else none
    | _, _ => none
  | .append el sz bytes x y, some t => aAppend st t el sz bytes (x.ev st) (y.ev st)
  | .call f args, some t =>
    match mapO (snap st) (args.map (·.ev st)) with
    | some ds => (call f ds).bind fun r => gotO t (args.map (·.ev st)) r st
    | none => none
  | .mcall f x args, some t =>
    match x.ev st with
    | .aref s sz off len =>
      match st.seg s with
      | some (.dat el sz' es) =>
        if sz' = sz ∧ off = 0 ∧ len = es.length ∧ anySiteL (args.map (·.ev st)) = false then
          match mapO (snap st) (args.map (·.ev st)) with
          | some ds => (call f (.mv el sz es :: ds)).map fun r => place t r (st.lose s)
          | none => none
        else none
      | _ => none
    | .d y =>
      match mapO (snap st) (.d y :: args.map (·.ev st)) with
      | some ds => (call f ds).bind fun r => if anySiteL (args.map (·.ev st)) && !r.plain then none else some (place t r st)
      | none => none
    | _ => none
  | .dcall g args, some t =>
    match snap st (g.ev st), mapO (snap st) (args.map (·.ev st)) with
    | some (.func f caps), some ds => (call f (ds ++ caps)).bind fun r => gotO t (g.ev st :: args.map (·.ev st)) r st
    | _, _ => none
  | op, some t => (aVal st op).map fun v => st.put t v.strip
  | _, none => none

def ro1 : DV → DV
  | .sl (.own _) sz es => .sl .ro sz es
  | .sl (.own2 _) sz es => .sl .ro sz (es.map fun e => e.map cellS)
  | x => x
def roTop : DV → DV
  | .tuple vs => .tuple (vs.map ro1)
  | .agg vs => .agg (vs.map ro1)
  | x => ro1 x
/-- the value of an operation that changes no object: what it makes is never written again -/
def gVal (call : FuncId → List DV → Option DV) (op : AOp) (st : St) : Option AV :=
  match op with
  | .call f args =>
    match mapO (snap st) (args.map (·.ev st)) with
    | some ds =>
      match call f ds with
      | some r => if anySiteL (args.map (·.ev st)) && !r.plain then none else some (.d (roTop r))
      | none => none
    | none => none
  | .dcall g args =>
    match snap st (g.ev st), mapO (snap st) (args.map (·.ev st)) with
    | some (.func f caps), some ds =>
      match call f (ds ++ caps) with
      | some r => if anySiteL (g.ev st :: args.map (·.ev st)) && !r.plain then none else some (.d (roTop r))
      | none => none
    | _, _ => none
  | .bslice _ sz len z parts =>
    if z.length = sz ∧ z.all DV.one then
      match rowsSet st sz (List.replicate len (z.map .d)) parts with
      | some rows => match datLL rows with | some ds => some (.d (.sl .tight sz ds)) | none => none
      | none => none
    else none
  | .box _ sz x =>
    match datL (x.ev st).cells with
    | some ds => if ds.length = sz ∧ (x.ev st).cells.all AV.one = true then some (.d (.rptr ds 0)) else none
    | none => none
  | op => aVal st op

def insStep (call : FuncId → List DV → Option DV) (i : AIns) (st : St) : Option St :=
  match i.g with
  | none => if i.tot then opStep call i.dst i.op st else (match i.dst with | some d => (gVal call i.op st).map fun v => st.put d v.strip | none => none)
  | some (t, want) =>
    if i.tot then
      match st.hypL t want i.up, i.dst with
      | some h, some d =>
        (match gVal call i.op h with
         | some v => some (st.put d (.w t want v))
         | none => if st.dead t want i.up then some (st.put d (.w t want .undef)) else none)
      | _, _ => none
    else
      match st.branch t want i.up with
      | some (true, st1) => opStep call i.dst i.op st1
      | some (false, st1) => some (st1.putO i.dst (.w t want .undef))
      | none => none
def runIns (call : FuncId → List DV → Option DV) : List AIns → St → Option St
  | [], st => some st
  | i :: l, st => (insStep call i st).bind (runIns call l)

/-! ### operations whose order is open -/
def AX.rd : AX → List Nat
  | .t n => [n]
  | _ => []
def rdO : Option AX → List Nat
  | some x => x.rd
  | none => []
def AOp.reads : AOp → List Nat
  | .mv x => x.rd
  | .pick c a b => c.rd ++ (a.rd ++ b.rd)
  | .box _ _ x => x.rd
  | .alloc _ _ _ => []
  | .build _ parts => parts.flatMap fun p => p.2.2.rd
  | .bslice _ _ _ _ parts => parts.flatMap fun p => p.2.rd
  | .load _ _ x _ => x.rd
  | .store _ a x => a.rd ++ x.rd
  | .bin _ x y => x.rd ++ y.rd
  | .eqb _ x y => x.rd ++ y.rd
  | .eqs _ _ x y => x.rd ++ y.rd
  | .shf _ x y => x.rd ++ y.rd
  | .un _ x => x.rd
  | .conv _ x => x.rd
  | .faddr _ x => x.rd
  | .iaddr _ x i _ => x.rd ++ i.rd
  | .slice _ x lo hi m => x.rd ++ (rdO lo ++ (rdO hi ++ rdO m))
  | .ext x _ => x.rd
  | .len x => x.rd
  | .mx xs => xs.flatMap AX.rd
  | .mn xs => xs.flatMap AX.rd
  | .append _ _ _ x y => x.rd ++ y.rd
  | .mkslice _ _ _ _ l c => l.rd ++ c.rd
  | .mkfn _ caps => caps.flatMap AX.rd
  | .eqnil _ x => x.rd
  | .call _ args => args.flatMap AX.rd
  | .mcall _ x args => x.rd ++ args.flatMap AX.rd
  | .dcall f args => f.rd ++ args.flatMap AX.rd
def AIns.reads (i : AIns) : List Nat := (match i.g with | some (t, _) => [t] | none => []) ++ (i.up.map (·.1) ++ i.op.reads)
/-- of the slots alone; of the objects too; a store; another -/
inductive Cls where
  | p
  | r
  | s
  | x
def AOp.cls : AOp → Cls
  | .mv _ | .pick _ _ _ | .build _ _ | .bslice _ _ _ _ _ | .bin _ _ _ | .eqb _ _ _ | .eqs _ _ _ _ | .shf _ _ _ | .un _ _ | .conv _ _ | .faddr _ _ | .iaddr _ _ _ _ | .slice _ _ _ _ _ | .ext _ _ | .len _ | .mx _ | .mn _ | .mkfn _ _ | .eqnil _ _ => .p
  | .load _ _ _ _ | .call _ _ | .dcall _ _ => .r
  | .store _ _ _ => .s
  | .box _ _ _ | .alloc _ _ _ | .append _ _ _ _ _ | .mkslice _ _ _ _ _ _ | .mcall _ _ _ => .x
def apartI (x y : AIns) : Bool :=
  (match x.dst with | some d => !y.reads.contains d && y.dst != some d | none => true) && (match y.dst with | some d => !x.reads.contains d | none => true)
/-- made in place: an operation that stands in one order to all others -/
def AIns.e (i : AIns) : Bool := i.g.isNone && !i.tot
def AIns.cls (i : AIns) : Cls := cond i.e .x i.op.cls
/-- made in place, where nothing names its site ahead -/
def AIns.f (i : AIns) : Bool := i.e && !i.up.isEmpty
def AOp.isM : AOp → Bool
  | .mcall _ _ _ => true
  | _ => false
def AOp.free : AOp → Bool
  | .box _ _ _ | .alloc _ _ _ | .append _ _ _ _ _ | .mkslice _ _ _ _ _ _ => true
  | _ => false
def AOp.makes : AOp → Bool
  | .box _ _ _ | .alloc _ _ _ | .append _ _ _ _ _ | .mkslice _ _ _ _ _ _ | .bslice _ _ _ _ _ | .call _ _ | .mcall _ _ _ => true
  | _ => false
def AOp.isApp : AOp → Bool
  | .append _ _ _ _ _ => true
  | _ => false
def AOp.isLoad : AOp → Bool
  | .load _ _ _ _ => true
  | _ => false
/-- does what is made by one stay apart from another operation? -/
def freeI (x y : AIns) : Bool := x.f && x.op.free && (match y.cls with | .p => true | .r => y.op.isLoad && !x.op.isApp | _ => false)
def commI (x y : AIns) : Bool :=
  apartI x y && ((match x.cls, y.cls with
    | .p, .p | .p, .r | .r, .p | .r, .r | .p, .s | .s, .p => true
    | _, _ => false) || (freeI x y || freeI y x))
/-- a load ahead of a store: the slots that must name different objects -/
def dynI (x y : AIns) : Option (Nat × Nat) :=
  match x.g, x.op, y.g, y.op with
  | none, .load _ _ (.t n) _, none, .store _ (.t m) _ => if apartI x y && (x.tot && y.tot) then some (n, m) else none
  | _, _, _, _ => none
/-- plain operations: of data they give data -/
def AOp.simple : AOp → Bool
  | .mv _ | .iaddr _ _ _ _ | .load _ _ _ _ | .faddr _ _ | .slice _ _ _ _ _ | .len _ | .bin _ _ _ | .conv _ _ | .ext _ _ | .bslice _ _ _ _ _ => true
  | _ => false
/-- a plain operation, whose operands must be data, and one that makes an object in place -/
def dynD (x y : AIns) : Bool := x.e && ((x.op.makes || x.op.free) && (y.g.isNone && (!y.e && (y.op.simple && apartI x y))))
def dynE (x y : AIns) : Bool := y.e && ((y.op.makes || y.op.free) && (x.g.isNone && (!x.e && (x.op.simple && apartI x y))))
def vRes (call : FuncId → List DV → Option DV) (i : AIns) (st : St) : Option AV :=
  match i.g with
  | none => (gVal call i.op st).map AV.strip
  | some (t, want) =>
    match st.hypL t want i.up with
    | some h =>
      if i.tot then
        (match gVal call i.op h with
         | some v => some (.w t want v)
         | none => if st.dead t want i.up then some (.w t want .undef) else none)
      else if st.dead t want i.up then some (.w t want .undef)
      else (gVal call i.op h).map (.w t want)
    | none => none
def vStep (call : FuncId → List DV → Option DV) (i : AIns) (st : St) : Option St :=
  match i.dst with
  | some d => (vRes call i st).map (st.put d)
  | none => none
/-- an operation that makes an object, in place; a call that would freeze what is here does not -/
def eStep (call : FuncId → List DV → Option DV) (dst : Option Nat) (op : AOp) (st : St) : Option St :=
  match op, dst with
  | .call f args, some t =>
    match mapO (snap st) (args.map (·.ev st)) with
    | some ds => (call f ds).bind fun r => if anySiteL (args.map (·.ev st)) && !r.plain then none else some (place t r st)
    | none => none
  | .dcall _ _, _ => none
  | op, dst => opStep call dst op st
def dStep (call : FuncId → List DV → Option DV) (i : AIns) (st : St) : Option St :=
  if i.e then eStep call i.dst i.op st else
  match i.op with
  | .store sz a x => (match i.g, i.dst with
    | none, none => aStore st sz (a.ev st) (x.ev st)
    | _, _ => none)
  | _ => vStep call i st
def runD (call : FuncId → List DV → Option DV) : List AIns → St → Option St
  | [], st => some st
  | i :: l, st => (dStep call i st).bind (runD call l)
/-- two slots that hold pointers to different things -/
def dynOk (st : St) (p : Nat × Nat) : Bool :=
  if p.1 = p.2 then (match st.env p.1 with | .d _ => true | _ => false) else
  match st.env p.1, st.env p.2 with
  | .d _, .ptr _ _ _ _ => true
  | .ptr s _ _ _, .ptr s' _ _ _ => s != s'
  | _, _ => false

inductive Ex where
  | nrm
  | ex (id : Nat)
  | ret
def iter (f : St → Option (Ex × St)) : Nat → St → Option (Ex × St)
  | 0, _ => none
  | n + 1, st =>
    match f st with
    | some (.nrm, st') => iter f n st'
    | r => r
/-- how a loop is run: its key, its body, the fuel -/
abbrev Run := Nat → (St → Option (Ex × St)) → Nat → St → Option (Ex × St)
def Run.ok (run : Run) : Prop := ∀ key f L st r, run key f L st = some r → ∃ n, iter f n st = some r
def Run.plain : Run := fun _ f L st => iter f L st
theorem Run.plain_ok : Run.plain.ok := fun _ f L st r h => ⟨L, h⟩
/-- a loop's body, behind which the rest is forgotten -/
def bodyOf (h : Hint) (f : St → Option (Ex × St)) (st : St) : Option (Ex × St) :=
  match f st with
  | some (.nrm, st') => some (.nrm, (St.away h.fr st').keep h)
  | r => r
def fsites : List AIns → List Nat
  | [] => []
  | i :: l => cond i.f (match i.dst with | some d => d :: fsites l | none => fsites l) (fsites l)
def exec (call : FuncId → List DV → Option DV) (run : Run) (L : Nat) : AC → St → Option (Ex × St)
  | .skip, st => some (.nrm, st)
  | .reg ops, st => (runIns call ops st).map (Prod.mk .nrm)
  | .dreg ops dyn, st =>
    match runD call ops (St.frees (fsites ops) st) with
    | some st' => if dyn.all (dynOk st') then some (.nrm, st') else none
    | none => none
  | .seq a b, st =>
    match exec call run L a st with
    | some (.nrm, st') => exec call run L b st'
    | r => r
  | .cond c a b, st =>
    match c.ev st with
    | .d (.bool t) => if t then exec call run L a st else exec call run L b st
    | _ => none
  | .block id b, st =>
    match exec call run L b st with
    | some (.ex id', st') => if id' = id then some (.nrm, st') else some (.ex id', st')
    | r => r
  | .loop none b, st => iter (exec call run L b) L st
  | .loop (some h) b, st => run h.key (bodyOf h (exec call run L b)) L ((St.away h.fr st).keep h)
  | .exit h id, st => some (.ex id, st.keepO h)
  | .ret h, st => some (.ret, st.keepO h)
  | .bad, _ => none

inductive RV where
  | t (n : Nat)
  | c (n : Nat) (agg : Bool) (sz : Nat)
structure AFn where
  body : AC
  ntmps : Nat
  res : List RV
def RV.get (st : St) : RV → Option AV
  | .t n => some (st.env n).strip
  | .c n agg sz => aLoad st agg sz (st.env n)
mutual
def AV.sites : AV → List Nat
  | .d _ => []
  | .aref s _ _ _ => [s]
  | .ptr s _ _ _ => [s]
  | .func _ cs => sitesL cs
  | .agg cs => sitesL cs
  | .tuple cs => sitesL cs
  | .w _ _ v => v.sites
  | .undef => []
def sitesL : List AV → List Nat
  | [] => []
  | v :: l => v.sites ++ sitesL l
end
def nodup : List Nat → Bool
  | [] => true
  | x :: l => !l.contains x && nodup l
def St.isDat (st : St) (s : Nat) : Bool := match st.seg s with | some (.dat _ _ _) => true | _ => false
/-- an object of data, or one whose cells name objects of data alone, none of those named -/
def St.siteOk (st : St) (T : List Nat) (s : Nat) : Bool :=
  match st.seg s with
  | some (.dat _ _ _) => true
  | some (.mix _ _ es) => es.all fun e => e.all fun c => c.sites.all fun s' => st.isDat s' && !T.contains s'
  | none => false
/-- what an object's cells name -/
def St.inner (st : St) (s : Nat) : List Nat :=
  match st.seg s with
  | some (.mix _ _ es) => es.flatMap fun e => sitesL e
  | _ => []
/-- a cell that is a whole object of data -/
def wholeOwn (st : St) : AV → Option DV
  | .aref s sz off len =>
    match st.seg s with
    | some (.dat el sz' es) => if sz' = sz ∧ off = 0 ∧ len = es.length then some (.sl (.own el) sz es) else none
    | _ => none
  | _ => none
def wholeR (st : St) : List (List AV) → Option (List (List DV))
  | [] => some []
  | e :: es => match mapO (wholeOwn st) e, wholeR st es with | some a, some b => some (a :: b) | _, _ => none
/-- a slice that is handed back whole is the caller's -/
def retOwn (st : St) (v : AV) : Option DV :=
  match v with
  | .aref s sz off len =>
    match st.seg s with
    | some (.dat el sz' es) => if sz' = sz ∧ off = 0 ∧ len = es.length then some (.sl (.own el) sz es) else (snap st v).map roTop
    | some (.mix el sz' es) =>
      if sz' = sz ∧ off = 0 ∧ len = es.length then
        match wholeR st es with
        | some rows => some (.sl (.own2 el) sz rows)
        | none => (snap st v).map roTop
      else (snap st v).map roTop
    | none => (snap st v).map roTop
  | v => (snap st v).map roTop
def retTop (st : St) (v : AV) : Option DV :=
  if nodup (v.sites ++ v.sites.flatMap st.inner) && v.sites.all (st.siteOk v.sites) then
    match v with
    | .tuple vs => (mapO (retOwn st) vs).map .tuple
    | .agg vs => (mapO (retOwn st) vs).map .agg
    | v => retOwn st v
  else (snap st v).map roTop
def aRet (st : St) (res : List RV) : Option DV :=
  match mapO (RV.get st) res with
  | some [v] => retTop st v
  | some vs => retTop st (.tuple vs)
  | none => none
def initV (t : Nat) : DV → AV
  | .mv el sz es => .aref t sz 0 es.length
  | x => .d x
def initO : DV → Option Ob
  | .mv el sz es => some (.dat el sz es)
  | _ => none
def St.init (ds : List DV) : St := { env := fun t => match ds[t]? with | some x => initV t x | none => .undef, seg := fun t => match ds[t]? with | some x => initO x | none => none }
def acall (tab : FuncId → Option AFn) (L : Nat) : Nat → FuncId → List DV → Option DV
  | 0, _, _ => none
  | n + 1, f, ds =>
    match tab f with
    | none => none
    | some fn =>
      if ds.length ≤ fn.ntmps then
        match exec (acall tab L n) Run.plain L fn.body (St.init ds) with
        | some (.nrm, st) => aRet st fn.res
        | some (.ret, st) => aRet st fn.res
        | _ => none
      else none

/-! ### compiling -/
def cCell : Value → Option DV
  | .int k n => some (.int k n)
  | .bool b => some (.bool b)
  | .slice none 0 0 => some .nilsl
  | .pointer none => some .nilptr
  | .nilFunc => some .nilfunc
  | _ => none
def cVal : Value → Option DV
  | .agg cs => (mapO cCell cs.toList).map .agg
  | v => cCell v
def cAX : Operand → Option AX
  | .tmp t => some (.t t)
  | .const v => (cVal v).map .k
  | .func f => some (.fn f)
  | .global _ => none
def cZero (P : Program) (t : TypeId) : Option (List DV) :=
  match P.info? t with
  | some i => match i.zero with | some v => mapO cCell v.cells.toList | none => none
  | none => none
def isAggT (P : Program) (t : TypeId) : Option Bool :=
  match P.underlying t with
  | some (.struct _) => some true
  | some (.array _ _) => some true
  | some _ => some false
  | none => none
def sizeT (P : Program) (t : TypeId) : Option Nat := (P.info? t).map (·.size)
def bytesT (P : Program) (t : TypeId) : Option Nat := (P.info? t).map (·.bytes)
def elemT (P : Program) (t : TypeId) : Option TypeId := match P.underlying t with | some (.slice e) => some e | _ => none
/-- a struct of numbers alone: so many cells -/
def flatFields (P : Program) : Nat → List Field → Bool
  | _, [] => true
  | n, f :: fs => f.offset == n && f.name != "_" && (match P.underlying f.type with | some (.int _) => true | _ => false) && flatFields P (n + 1) fs
def flatT (P : Program) (t : TypeId) : Option Nat :=
  match P.underlying t with
  | some (.struct fs) => if flatFields P 0 fs.toList && !P.stoodInHeld t && !P.eqGuardType P.depth t then some fs.size else none
  | _ => none
def cOpt (x : Option Operand) : Option (Option AX) := match x with | none => some none | some o => (cAX o).map some
def cPart (P : Program) (fs : Array Field) (p : Nat × Operand) : Option (Nat × Nat × AX) :=
  match fs[p.1]?, cAX p.2 with
  | some f, some x => (sizeT P f.type).map fun n => (f.offset, n, x)
  | _, _ => none
def cPart1 (p : Nat × Operand) : Option (Nat × AX) := (cAX p.2).map fun x => (p.1, x)

/-- does a function write into the slice that it is handed first? -/
def ofPar (ops : List Oper) (t : Nat) : Bool :=
  Nat.beq t 0 || ops.any fun o => o.dst == some t && (match o.op with | .move (.tmp 0) => true | _ => false)
def mvOps (ops : List Oper) : Bool :=
  ops.any fun o => match o.op with
    | .store _ (.tmp a) _ => ops.any fun q => q.dst == some a && (match q.op with | .indexAddr _ (.tmp x) _ => ofPar ops x | _ => false)
    | _ => false
def mvCode : Code → Bool
  | .region _ ops _ => mvOps ops.toList
  | .seq a b => mvCode a || mvCode b
  | .cond _ a b => mvCode a || mvCode b
  | .block _ b => mvCode b
  | .loop b => mvCode b
  | _ => false
def asCode : Code → Bool
  | .region _ ops _ => ops.toList.any fun o => o.dst == some 0
  | .seq a b => asCode a || asCode b
  | .cond _ a b => asCode a || asCode b
  | .block _ b => asCode b
  | .loop b => asCode b
  | _ => false
def mvName (s : String) : Bool :=
  s == "slices.Insert[[]int64,int64]" || s == "slices.Insert[[]giro/api.Pay,giro/api.Pay]" || s == "slices.Delete[[]giro/api.Pay,giro/api.Pay]"
def mvFn (P : Program) (f : FuncId) : Bool :=
  match P.funcs[f]? with
  | some fn => mvName fn.name || (match fn.params[0]? with
    | some t => (match P.underlying t with
      | some (.slice _) => (match fn.body with | some c => mvCode c && !asCode c | none => false)
      | _ => false)
    | none => false)
  | none => false
def cCall (P : Program) (c : Call) (type : TypeId) : Option AOp :=
  match c.callee with
  | .builtin .len =>
    match c.args.toList, c.argTypes.toList with
    | [x], [t] => match elemT P t, cAX x with | some _, some x => some (.len x) | _, _ => none
    | _, _ => none
  | .builtin .max => (mapO cAX c.args.toList).map .mx
  | .builtin .min => (mapO cAX c.args.toList).map .mn
  | .builtin .append =>
    match c.args.toList, c.argTypes.toList with
    | [x, y], [t, u] =>
      if t = u then
        match elemT P t, cAX x, cAX y with
        | some e, some x, some y =>
          match sizeT P e, bytesT P e, cZero P e with
          | some sz, some by_, some z => if 0 < sz ∧ z.length = sz then some (.append e sz by_ x y) else none
          | _, _, _ => none
        | _, _, _ => none
      else none
    | _, _ => none
  | .value f =>
    match f, cAX f, mapO cAX c.args.toList with
    | .func g, _, some args => (match mvFn P g, args with | true, x :: l => some (.mcall g x l) | _, args => some (.call g args))
    | _, some f, some args => some (.dcall f args)
    | _, _, _ => none
  | _ => none

def cOp (P : Program) (type : TypeId) : Op → Option AOp
  | .move x => (cAX x).map .mv
  | .assign x => (cAX x).map .mv
  | .pick c a b => match cAX c, cAX a, cAX b with | some c, some a, some b => some (.pick c a b) | _, _, _ => none
  | .box el x => match cAX x, sizeT P el with | some x, some sz => some (.box el sz x) | _, _ => none
  | .alloc el => match cZero P el, sizeT P el with | some z, some sz => if z.length = sz then some (.alloc el sz z) else none | _, _ => none
  | .build t parts =>
    match P.underlying t, cZero P t with
    | some (.struct fs), some z => if fs.toList.all (fun f => (sizeT P f.type).isSome) then (mapO (cPart P fs) parts.toList).map (.build z) else none
    | _, _ => none
  | .buildSlice t len parts =>
    match elemT P t with
    | some e =>
      match sizeT P e, cZero P e, mapO cPart1 parts.toList with
      | some sz, some z, some ps => if 0 < sz ∧ z.length = sz ∧ len * sz ≤ 16777216 then some (.bslice e sz len z ps) else none
      | _, _, _ => none
    | none => none
  | .load t a => match isAggT P t, sizeT P t, cAX a with | some g, some sz, some a => some (.load g sz a ((cZero P t).getD [])) | _, _, _ => none
  | .store t a x => match sizeT P t, cAX a, cAX x with | some sz, some a, some x => some (.store sz a x) | _, _, _ => none
  | .binOp op t x y _ =>
    match cAX x, cAX y with
    | some x, some y =>
      match op with
      | .shl => some (.shf op x y)
      | .shr => some (.shf op x y)
      | .eql => match flatT P t with | some n => some (.eqs false n x y) | none => match P.underlying t with | some .bool => some (.eqb false x y) | some (.int _) => some (.bin op x y) | some (.slice _) => (match y with | .k .nilsl => some (.eqnil false x) | _ => none) | _ => none
      | .neq => match flatT P t with | some n => some (.eqs true n x y) | none => match P.underlying t with | some .bool => some (.eqb true x y) | some (.int _) => some (.bin op x y) | some (.slice _) => (match y with | .k .nilsl => some (.eqnil true x) | _ => none) | _ => none
      | _ => some (.bin op x y)
    | _, _ => none
  | .unOp op _ x => (cAX x).map (.un op)
  | .convert src dst x =>
    match P.underlying src, P.underlying dst, cAX x with
    | some _, some (.int k), some x => some (.conv k x)
    | _, _, _ => none
  | .fieldAddr s x f =>
    match P.underlying s, cAX x with
    | some (.struct fs), some x =>
      match fs[f]? with
      | some fd => match sizeT P fd.type with | some n => if n = 0 then none else some (.faddr fd.offset x) | none => none
      | none => none
    | _, _ => none
  | .indexAddr t x i =>
    match elemT P t, cAX x, cAX i with
    | some e, some x, some i => match sizeT P e with | some sz => if 0 < sz then some (.iaddr sz x i ((cZero P e).getD [])) else none | none => none
    | _, _, _ => none
  | .slice t x lo hi mx =>
    match elemT P t, cAX x, cOpt lo, cOpt hi, cOpt mx with
    | some e, some x, some lo, some hi, some mx => match sizeT P e with | some sz => if 0 < sz then some (.slice sz x lo hi mx) else none | none => none
    | _, _, _, _, _ => none
  | .extract x i => (cAX x).map fun x => .ext x i
  | .makeFunc (.func f) first caps => if first.isEmpty then (mapO cAX caps.toList).map (.mkfn f) else none
  | .makeSlice t l c =>
    match elemT P t, cAX l, cAX c with
    | some e, some l, some c =>
      match sizeT P e, bytesT P e, cZero P e with
      | some sz, some by_, some z => if 0 < sz ∧ z.length = sz then some (.mkslice e sz by_ z l c) else none
      | _, _, _ => none
    | _, _, _ => none
  | .call c => cCall P c type
  | _ => none

def dstOk (N : Nat) : Option Nat → Bool
  | some d => decide (d < N)
  | none => true
def totCode (g : Oper → Bool) : Code → Bool
  | .skip => true
  | .region _ ops false => ops.toList.all g
  | .seq a b => totCode g a && totCode g b
  | .ret => true
  | _ => false
/-- operations that cannot fail where their operands are there (a hint alone) -/
def totOp (P : Program) : Nat → Op → Bool
  | _, .move _ => true
  | _, .assign _ => true
  | _, .pick _ _ _ => true
  | _, .box _ _ => true
  | _, .alloc _ => true
  | _, .build _ _ => true
  | _, .buildSlice _ _ _ => true
  | _, .load _ _ => true
  | _, .store _ _ _ => true
  | _, .binOp op _ _ _ _ => (match op with | .quo | .rem | .shl | .shr => false | _ => true)
  | _, .unOp _ _ _ => true
  | _, .convert _ _ _ => true
  | _, .fieldAddr _ _ _ => true
  | _, .extract _ _ => true
  | _, .makeFunc _ _ _ => true
  | 0, .call c => (match c.callee with | .builtin .len => true | .builtin .max => true | .builtin .min => true | _ => false)
  | n + 1, .call c =>
    (match c.callee with
     | .builtin .len => true
     | .builtin .max => true
     | .builtin .min => true
     | .value (.func f) =>
       (match P.funcs[f]? with
        | some fn => (match fn.body with | some c => totCode (fun o => totOp P n o.op) c | none => false)
        | none => false)
     | _ => false)
  | _, _ => false
/-- does a slot come of an index? (such a load is not merged) -/
def ofIdx (ops : Array Oper) : Nat → Nat → Bool
  | 0, _ => false
  | n + 1, t =>
    match ops.toList.find? (fun o => o.dst == some t) with
    | some o => (match o.op with
      | .indexAddr _ _ _ => true
      | .fieldAddr _ (.tmp b) _ => ofIdx ops n b
      | _ => false)
    | none => false
def idxLoad (ops : Array Oper) : Op → Bool
  | .load _ (.tmp a) => ofIdx ops 4 a
  | _ => false
/-- the guards above a guard -/
def upOf (ops : Array Oper) : Nat → Nat → List (Nat × Bool)
  | 0, _ => []
  | n + 1, j =>
    match ops[j]? with
    | some o => (match o.guard with | some (k, want) => (match (ops[k]?).bind (·.dst) with | some t => (t, want) :: upOf ops n k | none => []) | none => [])
    | none => []
/-- is a slot read as an argument alone? -/
def argOnly (t : Nat) : AOp → Bool
  | .call _ _ => true
  | .dcall f _ => !f.rd.contains t
  | .mcall _ x _ => !x.rd.contains t
  | .append _ _ _ x _ => !x.rd.contains t
  | q => !q.reads.contains t
/-- a row of data that is handed on alone: never written again -/
def dataOp (P : Program) (R : List Nat) (ops : Array Oper) (o : Oper) (op : AOp) : Bool :=
  match op, o.dst with
  | .box _ _ _, some t => R.contains t
  | .bslice _ _ _ _ _, some t => ops.toList.all fun p => match cOp P p.type p.op with | some q => argOnly t q | none => false
  | _, _ => false
def cIns (P : Program) (R : List Nat) (N : Nat) (ops : Array Oper) (o : Oper) : Option AIns :=
  match cOp P o.type o.op with
  | none => none
  | some op =>
    if dstOk N o.dst then
      match o.guard with
      | none => some ⟨o.dst, none, [], !dataOp P R ops o op, op⟩
      | some (j, want) => match (ops[j]?).bind (·.dst) with | some t => if o.dst = some t then none else some ⟨o.dst, some (t, want), upOf ops 8 j, totOp P 4 o.op && !idxLoad ops o.op, op⟩ | none => none
    else none
/-- those ahead of an operation -/
def preds (o : Oper) : List Nat := (o.after.toList.filter (Region.binds .any)).map (·.on)
def dstsOk (l : List AIns) (n lim : Nat) (pre : List Nat) : Bool :=
  (List.range l.length).all fun k => match l[k]? with | some i => i.dst != some n || k < lim || pre.contains k | none => true
def dynAt (l : List AIns) (j i : Nat) (pre : List Nat) : Option (List (Nat × Nat)) :=
  match l[j]?, l[i]? with
  | some x, some y => match dynI x y with
    | some (n, m) => if dstsOk l n j [] && dstsOk l m 0 pre then some [(n, m)] else none
    | none =>
      if dynE x y && x.op.reads.all (fun n => dstsOk l n j []) then some (x.op.reads.map fun n => (n, n))
      else if dynD x y && y.op.reads.all (fun n => dstsOk l n 0 pre) then some (y.op.reads.map fun n => (n, n))
      else none
  | _, _ => none
def commAt (l : List AIns) (j i : Nat) : Bool := match l[j]?, l[i]? with | some x, some y => commI x y | _, _ => false
/-- those ahead of each operation, and those ahead of them, as bits -/
def cloRow (acc : List Nat) : List Nat → Nat → Nat
  | [], m => m
  | k :: p, m => cloRow acc p (m ||| 1 <<< k ||| acc.getD k 0)
def clo : List (List Nat) → List Nat → List Nat
  | [], acc => acc
  | p :: l, acc => clo l (acc ++ [cloRow acc p 0])
/-- does it stand in one order to all others? -/
def ordered (c : List Nat) (n i : Nat) : Bool := (List.range n).all fun j => Nat.beq j i || (c.getD i 0).testBit j || (c.getD j 0).testBit i
def AIns.plainly (x : AIns) : AIns := cond x.g.isNone { x with tot := true, up := [] } x
/-- a call whose result is handed over -/
def movedBy (x y : AIns) : Bool :=
  match x.op, y.op with
  | .call _ _, .mcall _ (.t m) _ => (match x.dst with | some d => Nat.beq d m | none => false)
  | _, _ => false
def eMode (M : List AIns) (c : List Nat) (n : Nat) : Nat → List AIns → List AIns
  | _, [] => []
  | i, x :: l => cond (x.g.isNone && (x.op.makes && (ordered c n i || (x.op.isM || M.any (movedBy x))))) { x with tot := false } (cond (x.g.isNone && x.op.free) { x with tot := false, up := [(0, false)] } x.plainly) :: eMode M c n (i + 1) l
/-- those that are made where nothing names their sites have slots of their own -/
def fOk (l : List AIns) : Bool :=
  (List.range l.length).all fun i => match l[i]? with
    | some x => !x.f || (x.op.free && (match x.dst with | some d => decide (d < 50000) && ((List.range l.length).all fun j => Nat.beq j i || (match l[j]? with | some y => y.dst != some d | none => true)) | none => false))
    | none => true
def dynAll (l : List AIns) (pre : List (List Nat)) (c : List Nat) : List (Nat × Nat) :=
  (List.range l.length).flatMap fun i => (List.range i).flatMap fun j => if (pre.getD i []).contains j || commAt l j i || (c.getD i 0).testBit j then [] else (dynAt l j i (pre.getD i [])).getD []
def orderOk (l : List AIns) (pre : List (List Nat)) (c : List Nat) (dyn : List (Nat × Nat)) : Bool :=
  (List.range l.length).all fun i => (pre.getD i []).all (fun k => decide (k < i)) &&
    (List.range i).all fun j => (pre.getD i []).contains j || commAt l j i || (c.getD i 0).testBit j || (match dynAt l j i (pre.getD i []) with | some ps => ps.all dyn.contains | none => false)
def cCode (P : Program) (R : List Nat) (N : Nat) : Code → Option AC
  | .skip => some .skip
  | .region _ ops false => match mapO (cIns P R N ops) ops.toList with | some l => some (.reg l) | none => some .bad
  | .region _ ops true =>
    match mapO (cIns P R N ops) ops.toList with
    | some l0 =>
      let pre := ops.toList.map preds
      let c := clo pre []
      let l := eMode l0 c l0.length 0 l0
      let dyn := dynAll l pre c
      if P.follows .mixedOrders && (orderOk l pre c dyn && fOk l) then some (.dreg l dyn) else some .bad
    | none => some .bad
  | .seq a b => match cCode P R N a, cCode P R N b with | some a, some b => some (.seq a b) | _, _ => none
  | .cond c a b => match cAX c, cCode P R N a, cCode P R N b with | some c, some a, some b => some (.cond c a b) | _, _, _ => some .bad
  | .block id b => (cCode P R N b).map (.block id)
  | .loop b => (cCode P R N b).map (.loop none)
  | .exit id => some (.exit none id)
  | .ret => some (.ret none)
  | _ => some .bad
def cRes (P : Program) : ResultVar → Option RV
  | .tmp t => some (.t t)
  | .cell a t => match isAggT P t, sizeT P t with | some g, some sz => some (.c a g sz) | _, _ => none
/-- all operations -/
def AC.ins : AC → List AIns
  | .reg l => l
  | .dreg l _ => l
  | .seq a b => a.ins ++ b.ins
  | .cond _ a b => a.ins ++ b.ins
  | .block _ b => b.ins
  | .loop _ b => b.ins
  | _ => []
/-- a variable that is read alone, by its loads -/
def faddrOf (t : Nat) (i : AIns) : Option Nat :=
  match i.op with
  | .faddr _ (.t n) => if n = t then i.dst else none
  | _ => none
def roUse (t : Nat) (T : List Nat) (i : AIns) : Bool :=
  match i.op with
  | .load _ _ (.t _) _ => true
  | .faddr _ (.t n) => Nat.beq n t || !T.contains n
  | op => !(op.reads.any fun n => T.contains n)
def roBox (l : List AIns) (t : Nat) : Bool := l.all (roUse t (t :: l.filterMap (faddrOf t)))
def roBoxes (l : List AIns) : List Nat := l.filterMap fun i =>
  match i.op, i.dst with
  | .box _ _ _, some t => if roBox l t then some t else none
  | _, _ => none
def cFn (P : Program) (fn : Func) : Option AFn :=
  match fn.body with
  | none => none
  | some c =>
    if fn.name == "runtime.NumGoroutine" then none else
    match cCode P [] fn.ntmps c with
    | none => none
    | some b0 =>
    match cCode P (roBoxes b0.ins) fn.ntmps c, mapO (cRes P) fn.results.toList with
    | some b, some rs => some ⟨b, fn.ntmps, rs⟩
    | _, _ => none

/-- code without its hints -/
def AC.erase : AC → AC
  | .skip => .skip
  | .reg ops => .reg ops
  | .dreg ops dyn => .dreg ops dyn
  | .seq a b => .seq a.erase b.erase
  | .cond c a b => .cond c a.erase b.erase
  | .block id b => .block id b.erase
  | .loop _ b => .loop none b.erase
  | .exit _ id => .exit none id
  | .ret _ => .ret none
  | .bad => .bad
def AFn.erase (fn : AFn) : AFn := { fn with body := fn.body.erase }

end Go.Proofs.Ytjejjokdbbedlaa.Vm
