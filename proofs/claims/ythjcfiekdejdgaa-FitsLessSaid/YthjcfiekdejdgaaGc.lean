/- What payments come to: the round of the loop. No condition. -/
import Derived.Test.YthjcfiekdejdgaaGa
namespace Go.Proofs.Ythjcfiekdejdgaa
open Go Go.Proofs Go.RowKit Vm
set_option linter.unusedVariables false
set_option linter.unusedSimpArgs false
abbrev z7 : List DV := [.int .i64 0, .int .i64 0, .int .i64 0, .int .i64 0, .int .i64 0, .int .i64 0, .int .i64 0]
def pF (e : List DV) : Int := (cellA e 1).toI
def pT (e : List DV) : Int := (cellA e 2).toI
def pA (e : List DV) : Int := (cellA e 3).toI
def pC (e : List DV) : Int := (cellA e 4).toI
/-- a number in a row is changed -/
def upd (g : Int → Int) (n : Nat) (X : List (List DV)) (i : Int) (K : List (List DV) → Option DV) : Option DV :=
  cond (decide (0 ≤ i)) (cond (decide (i < (n : Int))) (lookK X[0 + i.toNat]? fun e6 => lookK e6[0]? fun e8 => cond ((DV.int .i64 0).isK e8) (cond (decide (0 ≤ i)) (cond (decide (i < (n : Int))) (lookK X[0 + i.toNat]? fun e13 => cond (decide (1 ≤ e13.length)) (K (X.set (0 + i.toNat) (.int .i64 (IntKind.i64.wrap (g e8.toI)) :: List.drop 1 e13))) none) none) none) none) none) none
/-- a row is picked -/
def pickN : Nat → Nat → Nat → (Nat → Option DV) → Option DV
  | 0, _, _, _ => none
  | c + 1, g, i, K => cond (Nat.beq i 0) (K g) (pickN c (g + 1) (i - 1) K)
def Ssq (t : Nat) : Nat → Nat → List (List (List DV)) → List (Nat × Option Ob)
  | 0, _, _ => []
  | c + 1, g, [] => (t + 100000 * g, none) :: Ssq t c (g + 1) []
  | c + 1, g, Q :: Qs => (t + 100000 * g, some (.dat 2 1 Q)) :: Ssq t c (g + 1) Qs
def arefs (n t : Nat) : Nat → Nat → List (List AV)
  | 0, _ => []
  | c + 1, g => [.aref (t + 100000 * g) 1 0 n] :: arefs n t c (g + 1)
def S290 (n : Nat) (l : List (List DV)) (i : Int) (X Y : List (List DV)) (Qs : List (List (List DV))) : St :=
  St.of [(4, .ptr 4 3 0 0), (5, .ptr 5 3 0 0), (15, .d (.sla false 7 l)), (16, .d (.int .i64 (l.length : Int))), (17, .d (.int .i64 i))]
    ((9, some (.dat 2 1 X)) :: (11, some (.dat 2 1 Y)) :: (13, none) :: (100013, some (.mix 24 1 (arefs n 13 n 2))) :: (Ssq 13 6 2 Qs ++ [(4, some (.dat 58 3 [[.nilsl, .nilsl, .nilsl]])), (5, some (.mix 58 3 [[.aref 9 1 0 n, .aref 11 1 0 n, .aref 100013 1 0 n]]))]))
def E290 (n : Nat) (X Y : List (List DV)) (Qs : List (List (List DV))) : St :=
  St.of [(4, .ptr 4 3 0 0), (5, .ptr 5 3 0 0)]
    ((9, some (.dat 2 1 X)) :: (11, some (.dat 2 1 Y)) :: (13, none) :: (100013, some (.mix 24 1 (arefs n 13 n 2))) :: (Ssq 13 6 2 Qs ++ [(4, some (.dat 58 3 [[.nilsl, .nilsl, .nilsl]])), (5, some (.mix 58 3 [[.aref 9 1 0 n, .aref 11 1 0 n, .aref 100013 1 0 n]]))]))
def setQ (Qs : List (List (List DV))) (f : Nat) (Q : List (List DV)) : List (List (List DV)) := Qs.set f Q
def getQ (Qs : List (List (List DV))) (f : Nat) : List (List DV) := Qs[f]?.getD []
/-- the round -/
def stepR (n : Nat) (l : List (List DV)) (i : Int) (X Y : List (List DV)) (Qs : List (List (List DV))) (k : Kont) : Option DV :=
  cond (decide (i < (l.length : Int))) (lookK l[i.toNat]? fun e => cond (okRow z7 e)
    (upd (fun x => x - pA e) n X (pF e) fun X1 => upd (fun x => x + pA e) n X1 (pT e) fun X2 =>
      cond (decide (0 ≤ pF e)) (cond (decide (pF e < (n : Int))) (pickN n 0 (0 + (pF e).toNat) fun f =>
        upd (fun x => x + pA e) n (getQ Qs f) (pT e) fun Qf =>
        cond (decide (0 ≤ pT e)) (cond (decide (pT e < (n : Int))) (pickN n 0 (0 + (pT e).toNat) fun t =>
          upd (fun x => x - pA e) n (getQ (setQ Qs f Qf) t) (pF e) fun Qt =>
            cond (pC e != 3)
              (upd (fun x => x + pA e) n Y (pF e) fun Y2 => k .nrm (S290 n l (IntKind.i64.wrap (i + 1)) X2 Y2 (setQ (setQ Qs f Qf) t Qt)))
              (k .nrm (S290 n l (IntKind.i64.wrap (i + 1)) X2 Y (setQ (setQ Qs f Qf) t Qt)))) none) none) none) none) none)
  (k (.ex 0) (E290 n X Y Qs))

def cells (n : Nat) (g : Nat → Int) : List (List DV) := (List.range n).map fun j => [.int .i64 (g j)]
def sumL (φ : List DV → Int) : List (List DV) → Int
  | [] => 0
  | e :: l => φ e + sumL φ l
def dM (j : Nat) (e : List DV) : Int := (if pT e = j then pA e else 0) - (if pF e = j then pA e else 0)
def dS (f : Nat) (e : List DV) : Int := if pF e = f ∧ pC e ≠ 3 then pA e else 0
def dQ (f t : Nat) (e : List DV) : Int := (if pF e = f ∧ pT e = t then pA e else 0) - (if pF e = t ∧ pT e = f then pA e else 0)
def X0 (n : Nat) (l : List (List DV)) : List (List DV) := cells n fun j => sumL (dM j) l
def Y0 (n : Nat) (l : List (List DV)) : List (List DV) := cells n fun j => sumL (dS j) l
def Q0 (n : Nat) (l : List (List DV)) : List (List (List DV)) := (List.range n).map fun f => cells n fun t => sumL (dQ f t) l
def l290 : LSpec := fun st => match st.env 15, st.seg 9 with
  | .d (.sla _ _ l), some (.dat _ _ X) => .one (.ex 0) (E290 X.length (X0 X.length l) (Y0 X.length l) (Q0 X.length l))
  | _, _ => .no
def lm (k : Nat) : Option LSpec := if k = 290 then some l290 else none
def qz (n : Nat) : List (List (List DV)) := (List.range n).map fun _ => cells n fun _ => 0
/-- what is handed back -/
def movR (X Y : List (List DV)) (Qs : List (List (List DV))) : DV := .agg [.sl (.own 2) 1 X, .sl (.own 2) 1 Y, .sl (.own2 24) 1 (Qs.map fun Q => [.sl (.own 2) 1 Q])]
theorem s290_1 (L m : Nat) (l X Y A0 : List (List DV)) (i : Nat) (k : Kont) : LB tab noSp lm L (m+4) h290 c29l0 (S290 1 l i X Y [A0]) k = stepR 1 l i X Y [A0] k := by kernel_rfl
theorem t29_1 (m : Nat) (l : List (List DV)) : FK tab noSp lm 20 (m+12) 29 [.int .i64 1, .sla false 7 l] = need (LoopOk (LB tab noSp lm 20 (m+12) h290 c29l0) (S290 1 l 0 (cells 1 fun _ => 0) (cells 1 fun _ => 0) (qz 1)) (.ex 0, E290 1 (X0 1 l) (Y0 1 l) (Q0 1 l))) (some (movR (X0 1 l) (Y0 1 l) (Q0 1 l))) := by kernel_rfl
theorem s290_2 (L m : Nat) (l X Y A0 Q1 : List (List DV)) (i : Nat) (k : Kont) : LB tab noSp lm L (m+4) h290 c29l0 (S290 2 l i X Y [A0, Q1]) k = stepR 2 l i X Y [A0, Q1] k := by kernel_rfl
theorem t29_2 (m : Nat) (l : List (List DV)) : FK tab noSp lm 20 (m+12) 29 [.int .i64 2, .sla false 7 l] = need (LoopOk (LB tab noSp lm 20 (m+12) h290 c29l0) (S290 2 l 0 (cells 2 fun _ => 0) (cells 2 fun _ => 0) (qz 2)) (.ex 0, E290 2 (X0 2 l) (Y0 2 l) (Q0 2 l))) (some (movR (X0 2 l) (Y0 2 l) (Q0 2 l))) := by kernel_rfl
theorem s290_3 (L m : Nat) (l X Y A0 Q1 Q2 : List (List DV)) (i : Nat) (k : Kont) : LB tab noSp lm L (m+4) h290 c29l0 (S290 3 l i X Y [A0, Q1, Q2]) k = stepR 3 l i X Y [A0, Q1, Q2] k := by kernel_rfl
theorem t29_3 (m : Nat) (l : List (List DV)) : FK tab noSp lm 20 (m+12) 29 [.int .i64 3, .sla false 7 l] = need (LoopOk (LB tab noSp lm 20 (m+12) h290 c29l0) (S290 3 l 0 (cells 3 fun _ => 0) (cells 3 fun _ => 0) (qz 3)) (.ex 0, E290 3 (X0 3 l) (Y0 3 l) (Q0 3 l))) (some (movR (X0 3 l) (Y0 3 l) (Q0 3 l))) := by kernel_rfl
theorem s290_4 (L m : Nat) (l X Y A0 Q1 Q2 Q3 : List (List DV)) (i : Nat) (k : Kont) : LB tab noSp lm L (m+4) h290 c29l0 (S290 4 l i X Y [A0, Q1, Q2, Q3]) k = stepR 4 l i X Y [A0, Q1, Q2, Q3] k := by kernel_rfl
theorem t29_4 (m : Nat) (l : List (List DV)) : FK tab noSp lm 20 (m+12) 29 [.int .i64 4, .sla false 7 l] = need (LoopOk (LB tab noSp lm 20 (m+12) h290 c29l0) (S290 4 l 0 (cells 4 fun _ => 0) (cells 4 fun _ => 0) (qz 4)) (.ex 0, E290 4 (X0 4 l) (Y0 4 l) (Q0 4 l))) (some (movR (X0 4 l) (Y0 4 l) (Q0 4 l))) := by kernel_rfl
theorem s290_5 (L m : Nat) (l X Y A0 Q1 Q2 Q3 Q4 : List (List DV)) (i : Nat) (k : Kont) : LB tab noSp lm L (m+4) h290 c29l0 (S290 5 l i X Y [A0, Q1, Q2, Q3, Q4]) k = stepR 5 l i X Y [A0, Q1, Q2, Q3, Q4] k := by kernel_rfl
theorem t29_5 (m : Nat) (l : List (List DV)) : FK tab noSp lm 20 (m+12) 29 [.int .i64 5, .sla false 7 l] = need (LoopOk (LB tab noSp lm 20 (m+12) h290 c29l0) (S290 5 l 0 (cells 5 fun _ => 0) (cells 5 fun _ => 0) (qz 5)) (.ex 0, E290 5 (X0 5 l) (Y0 5 l) (Q0 5 l))) (some (movR (X0 5 l) (Y0 5 l) (Q0 5 l))) := by kernel_rfl
theorem s290_6 (L m : Nat) (l X Y A0 Q1 Q2 Q3 Q4 Q5 : List (List DV)) (i : Nat) (k : Kont) : LB tab noSp lm L (m+4) h290 c29l0 (S290 6 l i X Y [A0, Q1, Q2, Q3, Q4, Q5]) k = stepR 6 l i X Y [A0, Q1, Q2, Q3, Q4, Q5] k := by kernel_rfl
theorem t29_6 (m : Nat) (l : List (List DV)) : FK tab noSp lm 20 (m+12) 29 [.int .i64 6, .sla false 7 l] = need (LoopOk (LB tab noSp lm 20 (m+12) h290 c29l0) (S290 6 l 0 (cells 6 fun _ => 0) (cells 6 fun _ => 0) (qz 6)) (.ex 0, E290 6 (X0 6 l) (Y0 6 l) (Q0 6 l))) (some (movR (X0 6 l) (Y0 6 l) (Q0 6 l))) := by kernel_rfl
theorem s290 {n : Nat} (h1 : 1 ≤ n) (h6 : n ≤ 6) (L m : Nat) (l X Y : List (List DV)) {Qs : List (List (List DV))} (hq : Qs.length = n) (i : Nat) (k : Kont) : LB tab noSp lm L (m+4) h290 c29l0 (S290 n l i X Y Qs) k = stepR n l i X Y Qs k := by
  match n, Qs, hq, h6 with
  | 1, [a], _, _ => exact s290_1 L m l X Y a i k
  | 2, [a, b], _, _ => exact s290_2 L m l X Y a b i k
  | 3, [a, b, c], _, _ => exact s290_3 L m l X Y a b c i k
  | 4, [a, b, c, d], _, _ => exact s290_4 L m l X Y a b c d i k
  | 5, [a, b, c, d, e], _, _ => exact s290_5 L m l X Y a b c d e i k
  | 6, [a, b, c, d, e, f], _, _ => exact s290_6 L m l X Y a b c d e f i k
  | 0, _, _, _ => omega
  | c + 7, _, _, h => omega
theorem t29 {n : Nat} (h1 : 1 ≤ n) (h6 : n ≤ 6) (m : Nat) (l : List (List DV)) : FK tab noSp lm 20 (m+12) 29 [.int .i64 (n : Nat), .sla false 7 l] = need (LoopOk (LB tab noSp lm 20 (m+12) h290 c29l0) (S290 n l 0 (cells n fun _ => 0) (cells n fun _ => 0) (qz n)) (.ex 0, E290 n (X0 n l) (Y0 n l) (Q0 n l))) (some (movR (X0 n l) (Y0 n l) (Q0 n l))) := by
  obtain ⟨n, rfl⟩ : ∃ c, n = c + 1 := ⟨n - 1, by omega⟩
  match n, h6 with
  | 0, _ => exact t29_1 m l
  | 1, _ => exact t29_2 m l
  | 2, _ => exact t29_3 m l
  | 3, _ => exact t29_4 m l
  | 4, _ => exact t29_5 m l
  | 5, _ => exact t29_6 m l
  | c + 6, h => omega
end Go.Proofs.Ythjcfiekdejdgaa
