/- What is known of the search in payments, by the closures. No condition. -/
import Derived.Test.YthjcfiekdejdgaaGd
import Derived.Test.YthjcfiekdejdgaaGb
namespace Go.Proofs.Ythjcfiekdejdgaa
open Go Go.Proofs Go.RowKit Vm
set_option linter.unusedVariables false
set_option linter.unusedSimpArgs false
def pv (e : List DV) : DV := .agg [.int .i64 (cellA e 0).toI, .int .i64 (cellA e 1).toI, .int .i64 (cellA e 2).toI, .int .i64 (cellA e 3).toI, .int .i64 (cellA e 4).toI, .int .i64 (cellA e 5).toI, .int .i64 (cellA e 6).toI]
def cQ (n : Nat) (l : List (List DV)) : List (List DV) := (Q0 n l).map fun Q => [.sla false 1 Q]
def mayB (n f t a c : Int) : Bool := bif bif bif bif bif bif bif bif decide (f ≥ (0 : Int)) then decide (f < n) else false then decide (t ≥ (0 : Int)) else false then decide (t < n) else false then f != t else false then decide (a ≥ (1 : Int)) else false then decide (a ≤ (1099511627776 : Int)) else false then decide (c ≥ (1 : Int)) else false then decide (c ≤ (3 : Int)) else false
def mayE (n : Nat) (e : List DV) : Bool := mayB (n : Int) (pF e) (pT e) (pA e) (pC e)
/-- is one that sends this one short? -/
def eC (bs qs Y Q : List (List DV)) (i : Nat) (ro b2 : Int) (e : List DV) : Bool := pF e == (i : Int) && ((pC e == 3 && decide (ro < keptI b2 (at1 Y i))) || (at2 bs i (pT e).toNat != -1 && decide (at2 qs i (pT e).toNat + at2 Q i (pT e).toNat > at2 bs i (pT e).toNat)))
def clB (c : DV) (e : List DV) : Bool := match c with
  | .func g [.rptr [.int _ i] _] => pF e == i
  | .func g [.rptr [.sla _ _ ac, .sla _ _ bs, .sla _ _ ms, .sla _ _ qs] _] => !mayE ac.length e
  | .func g [.rptr [.int _ i] _, .rptr [.int _ b0, .int _ b1, .int _ b2] _, .rptr [.sl _ _ X, .sl _ _ Y, .sl _ _ Q] _, .rptr [.int _ ro] _, .rptr [.sla _ _ ac, .sla _ _ bs, .sla _ _ ms, .sla _ _ qs] _] => eC bs qs Y Q i.toNat ro b2 e
  | _ => false
def k30 (i : Int) : DV := .func 30 [.rptr [.int .i64 i] 0]
def k27 (b : List DV) : DV := .func 27 [.rptr b 0]
def C40 (b : List DV) (n : Nat) (l : List (List DV)) (i : Int) (b0 b1 b2 ro : Int) : List DV := [.rptr [.int .i64 i] 0, .rptr [.int .i64 b0, .int .i64 b1, .int .i64 b2] 0, .rptr [.sl .ro 1 (X0 n l), .sl .ro 1 (Y0 n l), .sl .ro 1 (cQ n l)] 0, .rptr [.int .i64 ro] 0, .rptr b 0]
def cl30S : FSpec where
  D ds := ∃ e i, ds = [pv e, .rptr [.int .i64 i] 0]
  val ds := match ds with | [.agg [_, .int _ f, _, _, _, _, _], .rptr [.int _ i] _] => some (.bool (f == i)) | _ => none
def cl27S : FSpec where
  D ds := ∃ e ac bs ms qs, ds = [pv e, .rptr (bk ac bs ms qs) 0]
  val ds := match ds with | [.agg [_, .int _ f, .int _ t, .int _ a, .int _ c, _, _], .rptr [.sla _ _ ac, .sla _ _ bs, .sla _ _ ms, .sla _ _ qs] _] => some (.bool (!mayB ac.length f t a c)) | _ => none
def cl40S : FSpec where
  D ds := ∃ e ac bs ms qs l i b0 b1 b2 ro, ds = pv e :: C40 (bk ac bs ms qs) ac.length l ((i : Nat) : Int) b0 b1 b2 ro ∧ BK ac bs ms qs ∧ i < ac.length ∧ isA b0 b1 b2 ∧ PO ac.length e ∧ l.length ≤ 1000 ∧ ∀ e ∈ l, PO ac.length e
  val ds := match ds with | [.agg l, .rptr [.int _ i] _, .rptr [.int _ b0, .int _ b1, .int _ b2] _, .rptr [.sl _ _ X, .sl _ _ Y, .sl _ _ Q] _, .rptr [.int _ ro] _, .rptr [.sla _ _ ac, .sla _ _ bs, .sla _ _ ms, .sla _ _ qs] _] => some (.bool (eC bs qs Y Q i.toNat ro b2 l)) | _ => none
noncomputable def spCl : FuncId → Option FSpec := spAdd 30 cl30S (spAdd 27 cl27S (spAdd 40 cl40S noSp))
def idxF (φ : List DV → Bool) : List (List DV) → Nat → Int
  | [], _ => -1
  | e :: l, i => cond (φ e) (i : Int) (idxF φ l (i + 1))
def l350 : LSpec := fun st => match st.env 0, st.env 1 with
  | .d (.sla _ _ l), .d c => .br (l.any (clB c)) (.one .ret (St.of [(4, .d (.int .i64 (idxF (clB c) l 0)))] [])) (.one (.ex 0) (St.of [] []))
  | _, _ => .no
def lE (k : Nat) : Option LSpec := if k = 350 then some l350 else none
def S350 (l : List (List DV)) (c : DV) (i : Int) : St := St.of [(0, .d (.sla false 7 l)), (1, .d c), (7, .d (.int .i64 (l.length : Int))), (8, .d (.int .i64 i))] []
theorem s350_30 (L n : Nat) (l : List (List DV)) (x : Int) (i : Nat) (k : Kont) : LB tab spCl lE L (n+4) h350 c35l0 (S350 l (k30 x) i) k =
  cond (decide ((i : Int) < (l.length : Int))) (lookK l[((i : Nat) : Int).toNat]? fun e => cond (okRow z7 e) (need (cl30S.D [pv e, .rptr [.int .i64 x] 0]) (cond (clB (k30 x) e) (k .ret (St.of [(4, .d (.int .i64 i))] [])) (k .nrm (S350 l (k30 x) (IntKind.i64.wrap ((i : Int) + 1)))))) none) (k (.ex 0) (St.of [] [])) := by kernel_rfl
theorem s350_27 (L n : Nat) (l ac bs ms qs : List (List DV)) (i : Nat) (k : Kont) : LB tab spCl lE L (n+4) h350 c35l0 (S350 l (k27 (bk ac bs ms qs)) i) k =
  cond (decide ((i : Int) < (l.length : Int))) (lookK l[((i : Nat) : Int).toNat]? fun e => cond (okRow z7 e) (need (cl27S.D [pv e, .rptr (bk ac bs ms qs) 0]) (cond (clB (k27 (bk ac bs ms qs)) e) (k .ret (St.of [(4, .d (.int .i64 i))] [])) (k .nrm (S350 l (k27 (bk ac bs ms qs)) (IntKind.i64.wrap ((i : Int) + 1)))))) none) (k (.ex 0) (St.of [] [])) := by kernel_rfl
theorem s350_40 (L n : Nat) (l ac bs ms qs : List (List DV)) (m : Nat) (l' : List (List DV)) (x b0 b1 b2 ro : Int) (i : Nat) (k : Kont) : LB tab spCl lE L (n+4) h350 c35l0 (S350 l (.func 40 (C40 (bk ac bs ms qs) m l' x b0 b1 b2 ro)) i) k =
  cond (decide ((i : Int) < (l.length : Int))) (lookK l[((i : Nat) : Int).toNat]? fun e => cond (okRow z7 e) (need (cl40S.D (pv e :: C40 (bk ac bs ms qs) m l' x b0 b1 b2 ro)) (cond (clB (.func 40 (C40 (bk ac bs ms qs) m l' x b0 b1 b2 ro)) e) (k .ret (St.of [(4, .d (.int .i64 i))] [])) (k .nrm (S350 l (.func 40 (C40 (bk ac bs ms qs) m l' x b0 b1 b2 ro)) (IntKind.i64.wrap ((i : Int) + 1)))))) none) (k (.ex 0) (St.of [] [])) := by kernel_rfl
end Go.Proofs.Ythjcfiekdejdgaa
