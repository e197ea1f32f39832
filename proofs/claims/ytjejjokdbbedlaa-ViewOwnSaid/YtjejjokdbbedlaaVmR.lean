/- Runs that take some calls by what is known of them: a function's domain and its value there. No condition. -/
import Derived.Test.YtjejjokdbbedlaaVmQ
import Derived.Test.YtjejjokdbbedlaaVmM
namespace Go.Proofs.Ytjejjokdbbedlaa.Vm
open Go Go.RowKit Go.ChangeShapes Go.WideShapes Go.ChangeAt
set_option linter.unusedVariables false
set_option linter.unusedSimpArgs false
set_option linter.unusedSectionVars false

/-- what is asked ahead of what follows -/
noncomputable def need (p : Prop) (a : Option DV) : Option DV := @ite _ p (Classical.propDecidable p) a none
@[simp] theorem need_true (a : Option DV) : need True a = a := if_pos trivial
theorem need_pos {p : Prop} {a : Option DV} (h : p) : need p a = a := by
  unfold need
  exact if_pos h
/-- what is known of a function: where, and its value there -/
structure FSpec where
  D : List DV → Prop
  val : List DV → Option DV
def FSpec.ok (P : Program) (f : FuncId) (s : FSpec) : Prop := ∀ ds r, s.D ds → s.val ds = some r → EntX P f ds r
/-- what is known of a loop: its end, from its beginning -/
inductive LR where
  | no
  | one (e : Ex) (st : St)
  | br (b : Bool) (x y : LR)
def LR.val : LR → Option (Ex × St)
  | .no => none
  | .one e st => some (e, st)
  | .br b x y => cond b x.val y.val
def LR.run : LR → Kont → Option DV
  | .no, _ => none
  | .one e st, k => k e st
  | .br b x y, k => cond b (x.run k) (y.run k)
theorem LR.run_eq (k : Kont) : ∀ r : LR, r.run k = fin k r.val
  | .no => rfl
  | .one e st => rfl
  | .br b x y => by
    cases b
    · exact LR.run_eq k y
    · exact LR.run_eq k x
abbrev LSpec := St → LR
def LoopOk (fK : St → Kont → Option DV) (st : St) (r : Ex × St) : Prop := ∃ n, ∀ k, iterK fK n st k = k r.1 r.2
noncomputable def srun (lsp : Nat → Option LSpec) : Run := fun key f L st =>
  match lsp key with
  | some s => (match (s st).val with
    | some r => @ite _ (∃ n, iter f n st = some r) (Classical.propDecidable _) (some r) none
    | none => none)
  | none => iter f L st
theorem srun_ok (lsp : Nat → Option LSpec) : (srun lsp).ok := by
  intro key f L st r h
  unfold srun at h
  split at h
  · split at h
    · split at h
      · rename_i hn
        cases h
        exact hn
      · cases h
    · cases h
  · exact ⟨L, h⟩
noncomputable def srunK (lsp : Nat → Option LSpec) : RunK := fun key fK L st k =>
  match lsp key with
  | some s => (s st).run fun e st1 => need (LoopOk fK st (e, st1)) (k e st1)
  | none => iterK fK L st k
theorem loop_iff {f : St → Option (Ex × St)} {fK : St → Kont → Option DV} (h : ∀ st k, fK st k = fin k (f st)) (st : St) (r : Ex × St) : LoopOk fK st r ↔ ∃ n, iter f n st = some r := by
  constructor
  · rintro ⟨n, hn⟩
    refine ⟨n, ?_⟩
    have := hn fun e s => @ite _ ((e, s) = r) (Classical.propDecidable _) (some (.bool true)) none
    rw [iterK_eq h] at this
    simp only [if_pos] at this
    cases hi : iter f n st with
    | none => simp [hi, fin] at this
    | some r' =>
      obtain ⟨e, s⟩ := r'
      simp only [hi, fin] at this
      split at this
      · rename_i hr
        rw [hr]
      · cases this
  · rintro ⟨n, hn⟩
    refine ⟨n, fun k => ?_⟩
    rw [iterK_eq h, hn]
    rfl
theorem srunK_ok (lsp : Nat → Option LSpec) : RunK.ok (srun lsp) (srunK lsp) := by
  intro key f fK h L st k
  unfold srun srunK
  cases lsp key with
  | none => exact iterK_eq h L st k
  | some s =>
    simp only [LR.run_eq]
    cases (s st).val with
    | none => rfl
    | some r =>
      obtain ⟨e, st1⟩ := r
      generalize hr : (e, st1) = r
      simp only [fin, need, hr]
      by_cases hl : LoopOk fK st r
      · rw [if_pos hl, if_pos ((loop_iff h st r).1 hl)]
      · rw [if_neg hl, if_neg fun g => hl ((loop_iff h st r).2 g)]
noncomputable def scall (tab : FuncId → Option AFn) (sp : FuncId → Option FSpec) (lsp : Nat → Option LSpec) (L : Nat) : Nat → FuncId → List DV → Option DV
  | 0, _, _ => none
  | n + 1, f, ds =>
    match sp f with
    | some s => need (s.D ds) (s.val ds)
    | none =>
    match tab f with
    | none => none
    | some fn =>
      if ds.length ≤ fn.ntmps then
        match exec (scall tab sp lsp L n) (srun lsp) L fn.body (St.init ds) with
        | some (.nrm, st) => aRet st fn.res
        | some (.ret, st) => aRet st fn.res
        | _ => none
      else none
/-- a function's run, by what is known of others -/
noncomputable def fnK (tab : FuncId → Option AFn) (sp : FuncId → Option FSpec) (lsp : Nat → Option LSpec) (L n : Nat) (call : FuncId → List DV → Option DV) (callK : CallK) (f : FuncId) (ds : List DV) (k : DV → Option DV) : Option DV :=
    match tab f with
    | none => none
    | some fn =>
      if ds.length ≤ fn.ntmps then
        execK call callK (srunK lsp) L fn.body (St.init ds) fun e st => match e with
          | .nrm => aRetK st fn.res k
          | .ret => aRetK st fn.res k
          | .ex _ => none
      else none
noncomputable def scallK (tab : FuncId → Option AFn) (sp : FuncId → Option FSpec) (lsp : Nat → Option LSpec) (L : Nat) : Nat → CallK
  | 0, _, _, _ => none
  | n + 1, f, ds, k =>
    match sp f with
    | some s => need (s.D ds) (lookK (s.val ds) k)
    | none => fnK tab sp lsp L n (scall tab sp lsp L n) (scallK tab sp lsp L n) f ds k
theorem scallK_ok (tab : FuncId → Option AFn) (sp : FuncId → Option FSpec) (lsp : Nat → Option LSpec) (L : Nat) : ∀ n, CallK.ok (scall tab sp lsp L n) (scallK tab sp lsp L n)
  | 0, f, ds, k => rfl
  | n + 1, f, ds, k => by
    simp only [scallK, scall, fnK]
    cases sp f with
    | some s =>
      simp only [need, lookK_eq]
      split <;> rfl
    | none =>
    simp only
    cases tab f with
    | none => rfl
    | some fn =>
      simp only
      split
      · rw [execK_eq (scallK_ok tab sp lsp L n) (srunK_ok lsp)]
        cases exec (scall tab sp lsp L n) (srun lsp) L fn.body (St.init ds) with
        | none => rfl
        | some r =>
          obtain ⟨e, st⟩ := r
          cases e with
          | nrm => exact aRetK_eq _ _ _
          | ret => exact aRetK_eq _ _ _
          | ex id => rfl
      · rfl
theorem scallK_run {tab : FuncId → Option AFn} {sp : FuncId → Option FSpec} {lsp : Nat → Option LSpec} {L n : Nat} {f : FuncId} {ds : List DV} {r : DV} (h : scallK tab sp lsp L n f ds some = some r) : scall tab sp lsp L n f ds = some r := by
  rw [scallK_ok tab sp lsp L n f ds some] at h
  simpa using h
theorem scall_ok {P : Program} {tab : FuncId → Option AFn} {sp : FuncId → Option FSpec} {lsp : Nat → Option LSpec} (htab : ∀ f fn', tab f = some fn' → ∃ fn, P.funcs[f]? = some fn ∧ cFn P fn = some fn'.erase) (hsp : ∀ f s, sp f = some s → s.ok P f) (L : Nat) : ∀ n, CallOk P (scall tab sp lsp L n) := by
  intro n
  induction n with
  | zero => intro f ds r h; simp [scall] at h
  | succ n ih =>
    intro f ds r h
    simp only [scall] at h
    cases hs : sp f with
    | some s =>
      simp only [hs] at h
      by_cases hD : s.D ds
      · simp only [need, if_pos hD] at h
        exact hsp f s hs ds r hD h
      · simp only [need, if_neg hD] at h
        cases h
    | none =>
    simp only [hs] at h
    cases ht : tab f with
    | none => simp [ht] at h
    | some fn' =>
      obtain ⟨fn, hfn, hcf⟩ := htab f fn' ht
      simp only [ht] at h
      split at h
      · rename_i hlen
        exact (fn_ok ih (srun_ok lsp) hfn hcf hlen h).x
      · cases h

/-! ### loops, round by round -/
/-- a loop's body, where calls are taken by what is known of them -/
noncomputable def LB (tab : FuncId → Option AFn) (sp : FuncId → Option FSpec) (lsp : Nat → Option LSpec) (L n : Nat) (h : Hint) (b : AC) : St → Kont → Option DV :=
  bodyK h (execK (scall tab sp lsp L n) (scallK tab sp lsp L n) (srunK lsp) L b)
def nextK (f : St → Kont → Option DV) (n : Nat) (k : Kont) : Kont := fun e st1 => match e with | .nrm => iterK f n st1 k | e => k e st1
theorem iterK_succ (f : St → Kont → Option DV) (n : Nat) (st : St) (k : Kont) : iterK f (n + 1) st k = f st (nextK f n k) := rfl
theorem loop_one {f : St → Kont → Option DV} {st : St} {r : Ex × St} (h1 : r.1 ≠ .nrm) (h : ∀ k, f st k = k r.1 r.2) : LoopOk f st r := ⟨1, fun k => by
  rw [iterK_succ, h]
  revert h1
  cases r.1 with
  | nrm => exact fun h => absurd rfl h
  | _ => exact fun _ => rfl⟩
theorem loop_rounds {f : St → Kont → Option DV} (S : Nat → St) (R : Nat → Ex × St) (N : Nat)
    (hstep : ∀ i, i < N → ((∀ k, f (S i) k = k .nrm (S (i + 1))) ∧ R i = R (i + 1)) ∨ ((R i).1 ≠ .nrm ∧ ∀ k, f (S i) k = k (R i).1 (R i).2))
    (hend : (R N).1 ≠ .nrm ∧ ∀ k, f (S N) k = k (R N).1 (R N).2) : ∀ i, i ≤ N → LoopOk f (S i) (R i) := by
  have one : ∀ i, ((R i).1 ≠ .nrm ∧ ∀ k, f (S i) k = k (R i).1 (R i).2) → LoopOk f (S i) (R i) := fun i h => ⟨1, fun k => by
    rw [iterK_succ, h.2]
    have := h.1
    revert this
    cases (R i).1 with
    | nrm => exact fun h => absurd rfl h
    | _ => exact fun _ => rfl⟩
  have key : ∀ m i, i ≤ N → N - i = m → LoopOk f (S i) (R i) := by
    intro m
    induction m with
    | zero =>
      intro i h1 h2
      cases (by omega : i = N)
      exact one _ hend
    | succ m ih =>
      intro i h1 h2
      rcases hstep i (by omega) with ⟨h, hr⟩ | h
      · obtain ⟨n, hn⟩ := ih (i + 1) (by omega) (by omega)
        refine ⟨n + 1, fun k => ?_⟩
        rw [iterK_succ, h, hr]
        exact hn k
      · exact one _ h
  exact fun i h => key _ i h rfl

def noSp : FuncId → Option FSpec := fun _ => none
theorem noSp_ok {P : Program} : ∀ f s, noSp f = some s → s.ok P f := fun f s h => by cases h
def spAdd (g : FuncId) (s : FSpec) (sp : FuncId → Option FSpec) : FuncId → Option FSpec := fun f => if f = g then some s else sp f
theorem spAdd_ok {P : Program} {g : FuncId} {s : FSpec} {sp : FuncId → Option FSpec} (hs : s.ok P g) (hsp : ∀ f s, sp f = some s → s.ok P f) : ∀ f s', spAdd g s sp f = some s' → s'.ok P f := by
  intro f s' h
  unfold spAdd at h
  split at h
  · rename_i hf
    cases h
    rw [hf]
    exact hs
  · exact hsp f s' h
@[simp] theorem toI_int (q : IntKind) (n : Int) : (DV.int q n).toI = n := rfl
@[simp] theorem toB_bool (b : Bool) : (DV.bool b).toB = b := rfl
theorem cellA_zero (c : DV) (l : List DV) : cellA (c :: l) 0 = c := rfl
theorem cellA_succ (c : DV) (l : List DV) (i : Nat) : cellA (c :: l) (i + 1) = cellA l i := rfl
theorem roTop_int (q : IntKind) (n : Int) : roTop (.int q n) = .int q n := rfl
theorem roTop_bool (b : Bool) : roTop (.bool b) = .bool b := rfl
theorem ro1_int (q : IntKind) (n : Int) : ro1 (.int q n) = .int q n := rfl
theorem ro1_bool (b : Bool) : ro1 (.bool b) = .bool b := rfl
theorem rowAt_cons (z : DV) (zs e : List DV) (i : Nat) : rowAt (z :: zs) e i = castTo z (cellA e i) :: rowAt zs e (i + 1) := rfl
theorem rowAt_nil (e : List DV) (i : Nat) : rowAt [] e i = [] := rfl
theorem rowAtV_cons (z : DV) (zs e : List DV) (i : Nat) : rowAtV (z :: zs) e i = castV z (cellA e i) :: rowAtV zs e (i + 1) := rfl
theorem rowAtV_nil (e : List DV) (i : Nat) : rowAtV [] e i = [] := rfl
theorem castV_int (q : IntKind) (n : Int) (c : DV) : castV (.int q n) c = .int q c.toI := rfl
theorem castV_bool (b : Bool) (c : DV) : castV (.bool b) c = .bool c.toB := rfl
theorem castV_nilsl (c : DV) : castV .nilsl c = c := rfl
theorem castTo_nilsl (c : DV) : castTo .nilsl c = .sla c.slT c.slZ c.slR := rfl
theorem castTo_int (q : IntKind) (n : Int) (c : DV) : castTo (.int q n) c = .int q c.toI := rfl
theorem castTo_bool (b : Bool) (c : DV) : castTo (.bool b) c = .bool c.toB := rfl
theorem take_zero' {α : Type} (l : List α) : List.take 0 l = [] := rfl
theorem take_nil' {α : Type} (n : Nat) : List.take n ([] : List α) = [] := by cases n <;> rfl
theorem take_cons' {α : Type} (n : Nat) (c : α) (l : List α) : List.take (n + 1) (c :: l) = c :: List.take n l := rfl
theorem drop_zero' {α : Type} (l : List α) : List.drop 0 l = l := rfl
theorem drop_cons' {α : Type} (n : Nat) (c : α) (l : List α) : List.drop (n + 1) (c :: l) = List.drop n l := rfl
/-- the rows of a slice -/
def rows : DV → List (List DV)
  | .sl _ _ es => es
  | _ => []
/-- a slice whose rows are of the kinds of a type's zero -/
def Rows (z : List DV) (n : Nat) (s : DV) : Prop := s = .nilsl ∨ ∃ q es, s = .sl q z.length es ∧ (∀ e ∈ es, okRow z e = true) ∧ es.length ≤ n

/-- a function's run, the calls in it by what is known -/
noncomputable def FK (tab : FuncId → Option AFn) (sp : FuncId → Option FSpec) (lsp : Nat → Option LSpec) (L n : Nat) (f : FuncId) (ds : List DV) : Option DV :=
  fnK tab sp lsp L n (scall tab sp lsp L n) (scallK tab sp lsp L n) f ds some
theorem of_FK {P : Program} {tab : FuncId → Option AFn} {sp : FuncId → Option FSpec} {lsp : Nat → Option LSpec} (htab : ∀ f fn', tab f = some fn' → ∃ fn, P.funcs[f]? = some fn ∧ cFn P fn = some fn'.erase) (hsp : ∀ f s, sp f = some s → s.ok P f) {L n : Nat} {f : FuncId} {ds : List DV} {r : DV}
    (hr : FK tab sp lsp L n f ds = some r) : Ent P f ds r := by
  unfold FK at hr
  have hK := scallK_ok tab sp lsp L n
  unfold fnK at hr
  cases ht : tab f with
  | none => simp [ht] at hr
  | some fn' =>
    obtain ⟨fn, hfn, hcf⟩ := htab f fn' ht
    simp only [ht] at hr
    split at hr
    · rename_i hlen
      refine fn_ok (scall_ok (lsp := lsp) htab hsp L n) (srun_ok lsp) (L := L) hfn hcf hlen ?_
      rw [execK_eq hK (srunK_ok lsp)] at hr
      cases he : exec (scall tab sp lsp L n) (srun lsp) L fn'.body (St.init ds) with
      | none => simp [he, fin] at hr
      | some r' =>
        obtain ⟨e, st⟩ := r'
        rw [he] at hr
        cases e with
        | nrm => simpa [fin, aRetK_eq] using hr
        | ret => simpa [fin, aRetK_eq] using hr
        | ex id => simp [fin] at hr
    · cases hr
/-- a function's spec, from its runs -/
theorem fspec_ok {P : Program} {tab : FuncId → Option AFn} {sp : FuncId → Option FSpec} {lsp : Nat → Option LSpec} (htab : ∀ f fn', tab f = some fn' → ∃ fn, P.funcs[f]? = some fn ∧ cFn P fn = some fn'.erase) (hsp : ∀ f s, sp f = some s → s.ok P f) {f : FuncId} {s : FSpec}
    (h : ∀ ds, s.D ds → ∃ L n, FK tab sp lsp L n f ds = s.val ds) : s.ok P f := by
  intro ds r hD hv
  obtain ⟨L, n, hr⟩ := h ds hD
  rw [hv] at hr
  exact (of_FK htab hsp hr).x
end Go.Proofs.Ytjejjokdbbedlaa.Vm
