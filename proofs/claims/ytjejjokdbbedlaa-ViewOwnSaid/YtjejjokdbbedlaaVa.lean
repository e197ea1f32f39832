/- view.all beside a closure that changes what it captured: its pieces, and what they do. No condition. -/
import Derived.Test.YtjejjokdbbedlaaHc
import Derived.Test.YtjejjokdbbedlaaVmV
namespace Go.Proofs.Ytjejjokdbbedlaa
open Go Go.Proofs Go.RowKit Vm
set_option linter.unusedVariables false
set_option linter.unusedSimpArgs false
noncomputable def B22 : Code := Try.f22.body.getD .skip
noncomputable def KL : Code := kLoop (kBlk (kB (kA (kB (kB B22)))))
noncomputable def KB : Code := kBlk (kA (kB (kB KL)))
theorem body22 : Try.f22.body = some B22 := by kernel_rfl
theorem shape22 : B22 = .seq (kA B22) (.seq (kA (kB B22)) (.seq (.seq (kA (kA (kB (kB B22)))) (.block 0 (.loop KL))) (.seq (kA (kB (kB (kB B22)))) .ret))) := by kernel_rfl
theorem shapeL : KL = .seq (kA KL) (.seq (kA (kB KL)) (.seq (.block 1 KB) (kB (kB (kB KL))))) := by kernel_rfl
theorem shapeB : KB = .seq (kA KB) (.seq (kA (kB KB)) (kB (kB KB))) := by kernel_rfl
def A22 : AC := c22.body.erase
def AL : AC := match xBlk (xB (xA (xB (xB A22)))) with | .loop _ b => b | c => c
def AB : AC := xBlk (xA (xB (xB AL)))
def hA : Hint := ⟨0, [5, 8, 9, 10, 11], [20, 50020], [], []⟩
def hS : Hint := ⟨0, [5, 8, 9, 10], [20, 50020], [], []⟩
def hP : Hint := ⟨0, [5, 7, 8, 9, 10], [7, 20, 50020], [], []⟩
def hC : Hint := ⟨0, [5, 7, 8, 9, 10, 16], [7, 20, 50020], [], []⟩
def hE : Hint := ⟨0, [5], [20, 50020], [], []⟩
def hF : Hint := ⟨0, [4], [20, 50020], [], []⟩
def h0 : Hint := ⟨0, [0], [], [], []⟩
def h5 : Hint := ⟨0, [0, 5], [], [], []⟩
def SA (l : List (List DV)) (v : AV) (i : Int) (o1 o2 : Option Ob) : St := St.of [(5, v), (8, .d (.sla false 7 l)), (9, .d (.int .i64 (l.length : Int))), (10, .d (.int .i64 i))] [(20, o1), (50020, o2)]
def SA1 (l : List (List DV)) (v : AV) (i : Int) (b : Bool) (o1 o2 : Option Ob) : St := St.of [(5, v), (8, .d (.sla false 7 l)), (9, .d (.int .i64 (l.length : Int))), (10, .d (.int .i64 i)), (11, .d (.bool b))] [(20, o1), (50020, o2)]
def SP (l : List (List DV)) (v : AV) (i : Int) (e : List DV) (o1 o2 : Option Ob) : St := St.of [(5, v), (7, .ptr 7 7 0 0), (8, .d (.sla false 7 l)), (9, .d (.int .i64 (l.length : Int))), (10, .d (.int .i64 i))] [(7, some (.dat 27 7 [e])), (20, o1), (50020, o2)]
def SC (l : List (List DV)) (v : AV) (i : Int) (e : List DV) (b : Bool) (o1 o2 : Option Ob) : St := St.of [(5, v), (7, .ptr 7 7 0 0), (8, .d (.sla false 7 l)), (9, .d (.int .i64 (l.length : Int))), (10, .d (.int .i64 i)), (16, .d (.bool b))] [(7, some (.dat 27 7 [e])), (20, o1), (50020, o2)]
def SE (v : AV) (o1 o2 : Option Ob) : St := St.of [(5, v)] [(20, o1), (50020, o2)]
def SF (v : AV) (o1 o2 : Option Ob) : St := St.of [(4, v)] [(20, o1), (50020, o2)]
def p7 (a0 a1 a2 a3 a4 a5 a6 : Int) : List DV := [.int .i64 a0, .int .i64 a1, .int .i64 a2, .int .i64 a3, .int .i64 a4, .int .i64 a5, .int .i64 a6]
/-- an accumulated row of payments: none, or at one of two sites -/
def Form (v : AV) (o1 o2 : Option Ob) : Prop := (v = .d .nilsl ∧ o1 = none ∧ o2 = none) ∨ (∃ O : List (List DV), v = .aref 20 7 0 O.length ∧ o1 = some (.dat 27 7 O) ∧ o2 = none) ∨ (∃ O : List (List DV), v = .aref 50020 7 0 O.length ∧ o1 = none ∧ o2 = some (.dat 27 7 O))
theorem form_par (O : List (List DV)) : Form (parV 20 50020 7 O) (parO1 27 7 O) (parO2 27 7 O) :=
  par_cases (M := Form) (fun _ => .inl ⟨rfl, rfl, rfl⟩) (fun _ _ => .inr (.inl ⟨O, rfl, rfl, rfl⟩)) (fun _ _ => .inr (.inr ⟨O, rfl, rfl, rfl⟩))
theorem v1 (L n : Nat) (l : List (List DV)) (k : Kont) : LB tab noSp lsp0 L (n+4) h0 (xA A22) (St.of [(0, .d (.sla false 7 l))] []) k = k .nrm (St.of [(0, .d (.sla false 7 l))] []) := by kernel_rfl
theorem v2 (L n : Nat) (l : List (List DV)) (k : Kont) : LB tab noSp lsp0 L (n+4) h5 (xA (xB A22)) (St.of [(0, .d (.sla false 7 l))] []) k = k .nrm (St.of [(0, .d (.sla false 7 l)), (5, .d .nilsl)] []) := by kernel_rfl
theorem v3 (L n : Nat) (l : List (List DV)) (k : Kont) : LB tab noSp lsp0 L (n+4) hS (xA (xA (xB (xB A22)))) (St.of [(0, .d (.sla false 7 l)), (5, .d .nilsl)] []) k = k .nrm (SA l (.d .nilsl) 0 none none) := by kernel_rfl
theorem vA (L n : Nat) (l : List (List DV)) (i : Nat) {v : AV} {o1 o2 : Option Ob} (hv : Form v o1 o2) (k : Kont) : LB tab noSp lsp0 L (n+4) hA (xA AL) (SA l v i o1 o2) k = k .nrm (SA1 l v i (decide ((i : Int) < (l.length : Int))) o1 o2) := by
  rcases hv with ⟨rfl, rfl, rfl⟩ | ⟨O, rfl, rfl, rfl⟩ | ⟨O, rfl, rfl, rfl⟩ <;> kernel_rfl
theorem vC (L n : Nat) (l : List (List DV)) (i : Nat) {v : AV} {o1 o2 : Option Ob} (hv : Form v o1 o2) (k : Kont) : LB tab noSp lsp0 L (n+4) hS (xA (xB AL)) (SA1 l v i true o1 o2) k = k .nrm (SA l v i o1 o2) := by
  rcases hv with ⟨rfl, rfl, rfl⟩ | ⟨O, rfl, rfl, rfl⟩ | ⟨O, rfl, rfl, rfl⟩ <;> kernel_rfl
theorem vX (L n : Nat) (l : List (List DV)) (i : Nat) {v : AV} {o1 o2 : Option Ob} (hv : Form v o1 o2) (k : Kont) : LB tab noSp lsp0 L (n+4) hS (xA (xB AL)) (SA1 l v i false o1 o2) k = k (.ex 0) (SA1 l v i false o1 o2) := by
  rcases hv with ⟨rfl, rfl, rfl⟩ | ⟨O, rfl, rfl, rfl⟩ | ⟨O, rfl, rfl, rfl⟩ <;> kernel_rfl
theorem vP (L n : Nat) (l : List (List DV)) (i : Nat) {v : AV} {o1 o2 : Option Ob} (hv : Form v o1 o2) (k : Kont) : LB tab noSp lsp0 L (n+4) hP (xA AB) (SA l v i o1 o2) k =
    cond (decide ((0 : Int) ≤ ((i : Nat) : Int))) (lookK l[((i : Nat) : Int).toNat]? fun e => cond (okRow z7 e) (k .nrm (SP l v i (pay7 e) o1 o2)) none) none := by
  rcases hv with ⟨rfl, rfl, rfl⟩ | ⟨O, rfl, rfl, rfl⟩ | ⟨O, rfl, rfl, rfl⟩ <;> kernel_rfl
theorem vD (L n : Nat) (l : List (List DV)) (i : Nat) {v : AV} {o1 o2 : Option Ob} (hv : Form v o1 o2) (k : Kont) : LB tab noSp lsp0 L (n+4) hS (xB (xB (xB AL))) (SA l v i o1 o2) k = k .nrm (SA l v (IntKind.i64.wrap ((i : Int) + 1)) o1 o2) := by
  rcases hv with ⟨rfl, rfl, rfl⟩ | ⟨O, rfl, rfl, rfl⟩ | ⟨O, rfl, rfl, rfl⟩ <;> kernel_rfl
theorem vF (L n : Nat) (l : List (List DV)) (i : Int) {v : AV} {o1 o2 : Option Ob} (hv : Form v o1 o2) (k : Kont) : LB tab noSp lsp0 L (n+4) hF (xA (xB (xB (xB A22)))) (SA1 l v i false o1 o2) k = k .nrm (SF v o1 o2) := by
  rcases hv with ⟨rfl, rfl, rfl⟩ | ⟨O, rfl, rfl, rfl⟩ | ⟨O, rfl, rfl, rfl⟩ <;> kernel_rfl
def rawQ (O : List (List DV)) (e : List DV) : Bool := decide ((27 : Nat) = 27 ∧ (7 : Nat) = 7 ∧ (7 : Nat) = 7 ∧ (0 : Nat) = 0 ∧ O.length = O.length ∧ (O ++ [e]).length * 56 ≤ room ∧ (O ++ [e]).length ≤ room)
theorem vQ0 (L n : Nat) (l : List (List DV)) (i : Nat) (a0 a1 a2 a3 a4 a5 a6 : Int) {v : AV} {o1 o2 : Option Ob} (hv : Form v o1 o2) (k : Kont) : LB tab noSp lsp0 L (n+4) hS (xB (xB AB)) (SC l v i (p7 a0 a1 a2 a3 a4 a5 a6) false o1 o2) k = k .nrm (SA l v i o1 o2) := by
  rcases hv with ⟨rfl, rfl, rfl⟩ | ⟨O, rfl, rfl, rfl⟩ | ⟨O, rfl, rfl, rfl⟩ <;> kernel_rfl
theorem vQA (L n : Nat) (l : List (List DV)) (i : Nat) (a0 a1 a2 a3 a4 a5 a6 : Int) (k : Kont) : LB tab noSp lsp0 L (n+4) hS (xB (xB AB)) (SC l (.d .nilsl) i (p7 a0 a1 a2 a3 a4 a5 a6) true none none) k = k .nrm (SA l (.aref 20 7 0 1) i (some (.dat 27 7 [p7 a0 a1 a2 a3 a4 a5 a6])) none) := by kernel_rfl
theorem vQB (L n : Nat) (l O : List (List DV)) (i : Nat) (a0 a1 a2 a3 a4 a5 a6 : Int) (k : Kont) : LB tab noSp lsp0 L (n+4) hS (xB (xB AB)) (SC l (.aref 20 7 0 O.length) i (p7 a0 a1 a2 a3 a4 a5 a6) true (some (.dat 27 7 O)) none) k =
    cond (rawQ O (p7 a0 a1 a2 a3 a4 a5 a6)) (k .nrm (SA l (.aref 50020 7 0 (O ++ [p7 a0 a1 a2 a3 a4 a5 a6]).length) i none (some (.dat 27 7 (O ++ [p7 a0 a1 a2 a3 a4 a5 a6]))))) none := by kernel_rfl
theorem vQC (L n : Nat) (l O : List (List DV)) (i : Nat) (a0 a1 a2 a3 a4 a5 a6 : Int) (k : Kont) : LB tab noSp lsp0 L (n+4) hS (xB (xB AB)) (SC l (.aref 50020 7 0 O.length) i (p7 a0 a1 a2 a3 a4 a5 a6) true none (some (.dat 27 7 O))) k =
    cond (rawQ O (p7 a0 a1 a2 a3 a4 a5 a6)) (k .nrm (SA l (.aref 20 7 0 (O ++ [p7 a0 a1 a2 a3 a4 a5 a6]).length) i (some (.dat 27 7 (O ++ [p7 a0 a1 a2 a3 a4 a5 a6]))) none)) none := by kernel_rfl
/-- what is handed back -/
def retQ (O : List (List DV)) : Option DV := cond (decide (O.length = O.length)) (some (.sl (.own 27) 7 O)) (cond (decide (0 + O.length ≤ O.length)) (some (.sl .ro 7 (List.take O.length O))) none)
theorem retA : aRetK (SF (.d .nilsl) none none) [.t 4] some = some .nilsl := by kernel_rfl
theorem retB (O : List (List DV)) : aRetK (SF (.aref 20 7 0 O.length) (some (.dat 27 7 O)) none) [.t 4] some = retQ O := by kernel_rfl
theorem retC (O : List (List DV)) : aRetK (SF (.aref 50020 7 0 O.length) none (some (.dat 27 7 O))) [.t 4] some = retQ O := by kernel_rfl
/-! ### the code, piece by piece -/
def oNo : Oper := ⟨none, .move (.tmp 0), 0, "", #[], none⟩
noncomputable def oAt (k : Nat) : Oper := match (kOps (kA (kB KB)))[k]? with | some o => o | none => oNo
theorem cc1 : cCode Try.prog [] 23 (kA B22) = some (xA A22).erase := by kernel_rfl
theorem cc2 : cCode Try.prog [] 23 (kA (kB B22)) = some (xA (xB A22)).erase := by kernel_rfl
theorem cc3 : cCode Try.prog [] 23 (kA (kA (kB (kB B22)))) = some (xA (xA (xB (xB A22)))).erase := by kernel_rfl
theorem cc4 : cCode Try.prog [] 23 (kA (kB (kB (kB B22)))) = some (xA (xB (xB (xB A22)))).erase := by kernel_rfl
theorem ccA : cCode Try.prog [] 23 (kA KL) = some (xA AL).erase := by kernel_rfl
theorem ccC : cCode Try.prog [] 23 (kA (kB KL)) = some (xA (xB AL)).erase := by kernel_rfl
theorem ccD : cCode Try.prog [] 23 (kB (kB (kB KL))) = some (xB (xB (xB AL))).erase := by kernel_rfl
theorem ccP : cCode Try.prog [] 23 (kA KB) = some (xA AB).erase := by kernel_rfl
theorem ccQ : cCode Try.prog [] 23 (kB (kB KB)) = some (xB (xB AB)).erase := by kernel_rfl
theorem ok1 : okPins [1] (kA B22) = true := by kernel_rfl
theorem ok2 : okPins [1] (kA (kB B22)) = true := by kernel_rfl
theorem ok3 : okPins [1] (kA (kA (kB (kB B22)))) = true := by kernel_rfl
theorem ok4 : okPins [1] (kA (kB (kB (kB B22)))) = true := by kernel_rfl
theorem okA : okPins [1] (kA KL) = true := by kernel_rfl
theorem okC : okPins [1] (kA (kB KL)) = true := by kernel_rfl
theorem okD : okPins [1] (kB (kB (kB KL))) = true := by kernel_rfl
theorem okP : okPins [1] (kA KB) = true := by kernel_rfl
theorem okQ : okPins [1] (kB (kB KB)) = true := by kernel_rfl
noncomputable def idR : Nat := match kA (kB KB) with | .region id _ _ => id | _ => 0
theorem shapeR : kA (kB KB) = .region idR (kOps (kA (kB KB))) false := by kernel_rfl
theorem sizeR : (kOps (kA (kB KB))).size = 3 := by kernel_rfl
theorem at0 : (kOps (kA (kB KB)))[0]? = some (oAt 0) := by kernel_rfl
theorem at1 : (kOps (kA (kB KB)))[1]? = some (oAt 1) := by kernel_rfl
theorem at2 : (kOps (kA (kB KB)))[2]? = some (oAt 2) := by kernel_rfl
theorem op0 : (oAt 0).op = .move (.tmp 1) := by kernel_rfl
theorem dst0 : (oAt 0).dst = some 14 := by kernel_rfl
theorem grd0 : (oAt 0).guard = none := by kernel_rfl
theorem dst2 : (oAt 2).dst = some 16 := by kernel_rfl
theorem grd2 : (oAt 2).guard = none := by kernel_rfl
theorem free0 : freeOf [1] (oAt 0) = true := by kernel_rfl
theorem free1 : freeOf [14, 1] (oAt 1) = true := by kernel_rfl
theorem free2 : freeOf [14, 1] (oAt 2) = true := by kernel_rfl
def x15 : AIns := ⟨some 15, none, [], true, .load true 7 (.t 7) z7⟩
theorem ci1 : cIns Try.prog [] 23 (kOps (kA (kB KB))) (oAt 1) = some x15 := by kernel_rfl
noncomputable def call2 : Call := match (oAt 2).op with | .call c => c | _ => ⟨.value (.tmp 0), #[], #[]⟩
theorem op2 : (oAt 2).op = .call call2 := by kernel_rfl
theorem callee2 : call2.callee = .value (.tmp 14) := by kernel_rfl
theorem args2 : call2.args = #[.tmp 15] := by kernel_rfl
theorem ntmps22 : Try.f22.ntmps = 23 := by kernel_rfl
theorem res22 : mapO (cRes Try.prog) Try.f22.results.toList = some [.t 4] := by kernel_rfl
theorem func22 : Try.prog.funcs[22]? = some Try.f22 := by kernel_rfl
end Go.Proofs.Ytjejjokdbbedlaa
