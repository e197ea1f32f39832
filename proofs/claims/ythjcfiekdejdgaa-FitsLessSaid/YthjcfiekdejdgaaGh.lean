/- What is known of Short: the rounds, for one to six parties. No condition. -/
import Derived.Test.YthjcfiekdejdgaaGg
namespace Go.Proofs.Ythjcfiekdejdgaa
open Go Go.Proofs Go.RowKit Vm
set_option linter.unusedVariables false
set_option linter.unusedSimpArgs false
noncomputable def spS : FuncId → Option FSpec := spAdd 28 conS (spAdd 29 movS (spAdd 31 isShS noSp))
def shP (ac bs ms qs l : List (List DV)) (i : Nat) : Bool := l.any (clB (k30 (i : Nat))) && shV ac bs ms qs l i
def outL (n : Nat) (P : Nat → Bool) : List (List DV) := ((List.range n).filter P).map fun i => [.int .i64 ((i : Nat) : Int)]
def par : Nat → Bool
  | 0 => true
  | n + 1 => !par n
def E160 (v : AV) (o1 o2 : Option Ob) : St := St.of [(6, v)] [(34, o1), (50034, o2)]
def oV : Nat → Nat → AV
  | 0, _ => .d .nilsl
  | c + 1, m => .aref (cond (par c) 34 50034) 1 0 m
def o1 (O : List (List DV)) : Nat → Option Ob
  | 0 => none
  | c + 1 => cond (par c) (some (.dat 3 1 O)) none
def o2 (O : List (List DV)) : Nat → Option Ob
  | 0 => none
  | c + 1 => cond (par c) none (some (.dat 3 1 O))
def l160 : LSpec := fun st => match st.env 1, st.env 2 with
  | .d (.sla _ _ l), .d (.rptr [.sla _ _ ac, .sla _ _ bs, .sla _ _ ms, .sla _ _ qs] _) =>
    .br (outL ac.length (shP ac bs ms qs l)).isEmpty (.one (.ex 0) (E160 (.d .nilsl) none none))
      (.br (par ((outL ac.length (shP ac bs ms qs l)).length - 1)) (.one (.ex 0) (E160 (.aref 34 1 0 (outL ac.length (shP ac bs ms qs l)).length) (some (.dat 3 1 (outL ac.length (shP ac bs ms qs l)))) none))
        (.one (.ex 0) (E160 (.aref 50034 1 0 (outL ac.length (shP ac bs ms qs l)).length) none (some (.dat 3 1 (outL ac.length (shP ac bs ms qs l)))))))
  | _, _ => .no
def lH (k : Nat) : Option LSpec := if k = 160 then some l160 else none
def S160 (n : Nat) (b : List DV) (l : List (List DV)) (v : AV) (i : Int) (o1 o2 : Option Ob) : St :=
  St.of [(1, .d (.sla false 7 l)), (2, .d (.rptr b 0)), (5, .ptr 5 3 0 0), (6, v), (16, .d (.int .i64 (n : Nat))), (17, .d (.int .i64 i))]
    ((13, none) :: (34, o1) :: (50034, o2) :: (100013, some (.dat 2 1 (X0 n l))) :: (200013, some (.dat 2 1 (Y0 n l))) :: (300013, some (.mix 24 1 (arefs n 13 n 4))) :: (Ssq 13 6 4 (Q0 n l) ++ [(2, none), (5, some (.mix 58 3 [[.aref 100013 1 0 n, .aref 200013 1 0 n, .aref 300013 1 0 n]]))]))
noncomputable def stepS (n : Nat) (ac bs ms qs l : List (List DV)) (v : AV) (i : Nat) (a1 a2 : Option Ob) (app : Option DV) (k : Kont) : Option DV :=
  cond (decide ((i : Int) < (n : Int))) (need (conS.D [.sla false 7 l, k30 (i : Int)])
    (cond (l.any (clB (k30 (i : Int)))) (need (isShS.D [mD n l, .agg (bk ac bs ms qs), .int .i64 ((i : Nat) : Int), .sla false 7 l])
      (cond (shV ac bs ms qs l ((i : Nat) : Int).toNat) app (k .nrm (S160 n (bk ac bs ms qs) l v (IntKind.i64.wrap ((i : Int) + 1)) a1 a2))))
      (k .nrm (S160 n (bk ac bs ms qs) l v (IntKind.i64.wrap ((i : Int) + 1)) a1 a2))))
  (k (.ex 0) (E160 v a1 a2))
/-- there is room for one more -/
def rawD (O : List (List DV)) (i : Nat) : Bool := decide ((3 : Nat) = 3 ∧ (1 : Nat) = 1 ∧ (1 : Nat) = 1 ∧ (0 : Nat) = 0 ∧ O.length = O.length ∧ (O ++ [[DV.int .i64 ((i : Nat) : Int)]]).length * 8 ≤ room ∧ (O ++ [[DV.int .i64 ((i : Nat) : Int)]]).length ≤ room)
def retO (O : List (List DV)) : Option DV := cond (decide (O.length = O.length)) (some (.sl (.own 3) 1 O)) (cond (decide (0 + O.length ≤ O.length)) (some (.sl .ro 1 (List.take O.length O))) none)
theorem retO_eq (O : List (List DV)) : retO O = some (.sl (.own 3) 1 O) := by
  unfold retO
  rw [decide_eq_true rfl, cond_true]
noncomputable def t16R (m n : Nat) (ac bs ms qs l : List (List DV)) : Option DV :=
  cond (outL ac.length (shP ac bs ms qs l)).isEmpty (need (LoopOk (LB tab spS lH 20 (m+12) h160 c16l0) (S160 n (bk ac bs ms qs) l (.d .nilsl) 0 none none) (.ex 0, E160 (.d .nilsl) none none)) (some .nilsl))
    (cond (par ((outL ac.length (shP ac bs ms qs l)).length - 1))
      (need (LoopOk (LB tab spS lH 20 (m+12) h160 c16l0) (S160 n (bk ac bs ms qs) l (.d .nilsl) 0 none none) (.ex 0, E160 (.aref 34 1 0 (outL ac.length (shP ac bs ms qs l)).length) (some (.dat 3 1 (outL ac.length (shP ac bs ms qs l)))) none)) (retO (outL ac.length (shP ac bs ms qs l))))
      (need (LoopOk (LB tab spS lH 20 (m+12) h160 c16l0) (S160 n (bk ac bs ms qs) l (.d .nilsl) 0 none none) (.ex 0, E160 (.aref 50034 1 0 (outL ac.length (shP ac bs ms qs l)).length) none (some (.dat 3 1 (outL ac.length (shP ac bs ms qs l)))))) (retO (outL ac.length (shP ac bs ms qs l)))))
theorem s160A_1 (L m : Nat) (ac bs ms qs l : List (List DV)) (i : Nat) (k : Kont) : LB tab spS lH L (m+4) h160 c16l0 (S160 1 (bk ac bs ms qs) l (.d .nilsl) i none none) k = stepS 1 ac bs ms qs l (.d .nilsl) i none none (k .nrm (S160 1 (bk ac bs ms qs) l (.aref 34 1 0 1) (IntKind.i64.wrap ((i : Int) + 1)) (some (.dat 3 1 [[.int .i64 ((i : Nat) : Int)]])) none)) k := by kernel_rfl
theorem s160B_1 (L m : Nat) (ac bs ms qs l O : List (List DV)) (i : Nat) (k : Kont) : LB tab spS lH L (m+4) h160 c16l0 (S160 1 (bk ac bs ms qs) l (.aref 34 1 0 O.length) i (some (.dat 3 1 O)) none) k = stepS 1 ac bs ms qs l (.aref 34 1 0 O.length) i (some (.dat 3 1 O)) none (cond (rawD O i) (k .nrm (S160 1 (bk ac bs ms qs) l (.aref 50034 1 0 (O ++ [[DV.int .i64 ((i : Nat) : Int)]]).length) (IntKind.i64.wrap ((i : Int) + 1)) none (some (.dat 3 1 (O ++ [[.int .i64 ((i : Nat) : Int)]]))))) none) k := by kernel_rfl
theorem s160C_1 (L m : Nat) (ac bs ms qs l O : List (List DV)) (i : Nat) (k : Kont) : LB tab spS lH L (m+4) h160 c16l0 (S160 1 (bk ac bs ms qs) l (.aref 50034 1 0 O.length) i none (some (.dat 3 1 O))) k = stepS 1 ac bs ms qs l (.aref 50034 1 0 O.length) i none (some (.dat 3 1 O)) (cond (rawD O i) (k .nrm (S160 1 (bk ac bs ms qs) l (.aref 34 1 0 (O ++ [[DV.int .i64 ((i : Nat) : Int)]]).length) (IntKind.i64.wrap ((i : Int) + 1)) (some (.dat 3 1 (O ++ [[.int .i64 ((i : Nat) : Int)]]))) none)) none) k := by kernel_rfl
theorem t16_1 (m : Nat) (p0 : List DV) (bs ms qs l : List (List DV)) : FK tab spS lH 20 (m+12) 16 [.agg (bk [p0] bs ms qs), .sla false 7 l] = need (movS.D [.int .i64 1, .sla false 7 l]) (t16R m 1 [p0] bs ms qs l) := by kernel_rfl
theorem s160A_2 (L m : Nat) (ac bs ms qs l : List (List DV)) (i : Nat) (k : Kont) : LB tab spS lH L (m+4) h160 c16l0 (S160 2 (bk ac bs ms qs) l (.d .nilsl) i none none) k = stepS 2 ac bs ms qs l (.d .nilsl) i none none (k .nrm (S160 2 (bk ac bs ms qs) l (.aref 34 1 0 1) (IntKind.i64.wrap ((i : Int) + 1)) (some (.dat 3 1 [[.int .i64 ((i : Nat) : Int)]])) none)) k := by kernel_rfl
theorem s160B_2 (L m : Nat) (ac bs ms qs l O : List (List DV)) (i : Nat) (k : Kont) : LB tab spS lH L (m+4) h160 c16l0 (S160 2 (bk ac bs ms qs) l (.aref 34 1 0 O.length) i (some (.dat 3 1 O)) none) k = stepS 2 ac bs ms qs l (.aref 34 1 0 O.length) i (some (.dat 3 1 O)) none (cond (rawD O i) (k .nrm (S160 2 (bk ac bs ms qs) l (.aref 50034 1 0 (O ++ [[DV.int .i64 ((i : Nat) : Int)]]).length) (IntKind.i64.wrap ((i : Int) + 1)) none (some (.dat 3 1 (O ++ [[.int .i64 ((i : Nat) : Int)]]))))) none) k := by kernel_rfl
theorem s160C_2 (L m : Nat) (ac bs ms qs l O : List (List DV)) (i : Nat) (k : Kont) : LB tab spS lH L (m+4) h160 c16l0 (S160 2 (bk ac bs ms qs) l (.aref 50034 1 0 O.length) i none (some (.dat 3 1 O))) k = stepS 2 ac bs ms qs l (.aref 50034 1 0 O.length) i none (some (.dat 3 1 O)) (cond (rawD O i) (k .nrm (S160 2 (bk ac bs ms qs) l (.aref 34 1 0 (O ++ [[DV.int .i64 ((i : Nat) : Int)]]).length) (IntKind.i64.wrap ((i : Int) + 1)) (some (.dat 3 1 (O ++ [[.int .i64 ((i : Nat) : Int)]]))) none)) none) k := by kernel_rfl
theorem t16_2 (m : Nat) (p0 p1 : List DV) (bs ms qs l : List (List DV)) : FK tab spS lH 20 (m+12) 16 [.agg (bk [p0, p1] bs ms qs), .sla false 7 l] = need (movS.D [.int .i64 2, .sla false 7 l]) (t16R m 2 [p0, p1] bs ms qs l) := by kernel_rfl
theorem s160A_3 (L m : Nat) (ac bs ms qs l : List (List DV)) (i : Nat) (k : Kont) : LB tab spS lH L (m+4) h160 c16l0 (S160 3 (bk ac bs ms qs) l (.d .nilsl) i none none) k = stepS 3 ac bs ms qs l (.d .nilsl) i none none (k .nrm (S160 3 (bk ac bs ms qs) l (.aref 34 1 0 1) (IntKind.i64.wrap ((i : Int) + 1)) (some (.dat 3 1 [[.int .i64 ((i : Nat) : Int)]])) none)) k := by kernel_rfl
theorem s160B_3 (L m : Nat) (ac bs ms qs l O : List (List DV)) (i : Nat) (k : Kont) : LB tab spS lH L (m+4) h160 c16l0 (S160 3 (bk ac bs ms qs) l (.aref 34 1 0 O.length) i (some (.dat 3 1 O)) none) k = stepS 3 ac bs ms qs l (.aref 34 1 0 O.length) i (some (.dat 3 1 O)) none (cond (rawD O i) (k .nrm (S160 3 (bk ac bs ms qs) l (.aref 50034 1 0 (O ++ [[DV.int .i64 ((i : Nat) : Int)]]).length) (IntKind.i64.wrap ((i : Int) + 1)) none (some (.dat 3 1 (O ++ [[.int .i64 ((i : Nat) : Int)]]))))) none) k := by kernel_rfl
theorem s160C_3 (L m : Nat) (ac bs ms qs l O : List (List DV)) (i : Nat) (k : Kont) : LB tab spS lH L (m+4) h160 c16l0 (S160 3 (bk ac bs ms qs) l (.aref 50034 1 0 O.length) i none (some (.dat 3 1 O))) k = stepS 3 ac bs ms qs l (.aref 50034 1 0 O.length) i none (some (.dat 3 1 O)) (cond (rawD O i) (k .nrm (S160 3 (bk ac bs ms qs) l (.aref 34 1 0 (O ++ [[DV.int .i64 ((i : Nat) : Int)]]).length) (IntKind.i64.wrap ((i : Int) + 1)) (some (.dat 3 1 (O ++ [[.int .i64 ((i : Nat) : Int)]]))) none)) none) k := by kernel_rfl
theorem t16_3 (m : Nat) (p0 p1 p2 : List DV) (bs ms qs l : List (List DV)) : FK tab spS lH 20 (m+12) 16 [.agg (bk [p0, p1, p2] bs ms qs), .sla false 7 l] = need (movS.D [.int .i64 3, .sla false 7 l]) (t16R m 3 [p0, p1, p2] bs ms qs l) := by kernel_rfl
theorem s160A_4 (L m : Nat) (ac bs ms qs l : List (List DV)) (i : Nat) (k : Kont) : LB tab spS lH L (m+4) h160 c16l0 (S160 4 (bk ac bs ms qs) l (.d .nilsl) i none none) k = stepS 4 ac bs ms qs l (.d .nilsl) i none none (k .nrm (S160 4 (bk ac bs ms qs) l (.aref 34 1 0 1) (IntKind.i64.wrap ((i : Int) + 1)) (some (.dat 3 1 [[.int .i64 ((i : Nat) : Int)]])) none)) k := by kernel_rfl
theorem s160B_4 (L m : Nat) (ac bs ms qs l O : List (List DV)) (i : Nat) (k : Kont) : LB tab spS lH L (m+4) h160 c16l0 (S160 4 (bk ac bs ms qs) l (.aref 34 1 0 O.length) i (some (.dat 3 1 O)) none) k = stepS 4 ac bs ms qs l (.aref 34 1 0 O.length) i (some (.dat 3 1 O)) none (cond (rawD O i) (k .nrm (S160 4 (bk ac bs ms qs) l (.aref 50034 1 0 (O ++ [[DV.int .i64 ((i : Nat) : Int)]]).length) (IntKind.i64.wrap ((i : Int) + 1)) none (some (.dat 3 1 (O ++ [[.int .i64 ((i : Nat) : Int)]]))))) none) k := by kernel_rfl
theorem s160C_4 (L m : Nat) (ac bs ms qs l O : List (List DV)) (i : Nat) (k : Kont) : LB tab spS lH L (m+4) h160 c16l0 (S160 4 (bk ac bs ms qs) l (.aref 50034 1 0 O.length) i none (some (.dat 3 1 O))) k = stepS 4 ac bs ms qs l (.aref 50034 1 0 O.length) i none (some (.dat 3 1 O)) (cond (rawD O i) (k .nrm (S160 4 (bk ac bs ms qs) l (.aref 34 1 0 (O ++ [[DV.int .i64 ((i : Nat) : Int)]]).length) (IntKind.i64.wrap ((i : Int) + 1)) (some (.dat 3 1 (O ++ [[.int .i64 ((i : Nat) : Int)]]))) none)) none) k := by kernel_rfl
theorem t16_4 (m : Nat) (p0 p1 p2 p3 : List DV) (bs ms qs l : List (List DV)) : FK tab spS lH 20 (m+12) 16 [.agg (bk [p0, p1, p2, p3] bs ms qs), .sla false 7 l] = need (movS.D [.int .i64 4, .sla false 7 l]) (t16R m 4 [p0, p1, p2, p3] bs ms qs l) := by kernel_rfl
theorem s160A_5 (L m : Nat) (ac bs ms qs l : List (List DV)) (i : Nat) (k : Kont) : LB tab spS lH L (m+4) h160 c16l0 (S160 5 (bk ac bs ms qs) l (.d .nilsl) i none none) k = stepS 5 ac bs ms qs l (.d .nilsl) i none none (k .nrm (S160 5 (bk ac bs ms qs) l (.aref 34 1 0 1) (IntKind.i64.wrap ((i : Int) + 1)) (some (.dat 3 1 [[.int .i64 ((i : Nat) : Int)]])) none)) k := by kernel_rfl
theorem s160B_5 (L m : Nat) (ac bs ms qs l O : List (List DV)) (i : Nat) (k : Kont) : LB tab spS lH L (m+4) h160 c16l0 (S160 5 (bk ac bs ms qs) l (.aref 34 1 0 O.length) i (some (.dat 3 1 O)) none) k = stepS 5 ac bs ms qs l (.aref 34 1 0 O.length) i (some (.dat 3 1 O)) none (cond (rawD O i) (k .nrm (S160 5 (bk ac bs ms qs) l (.aref 50034 1 0 (O ++ [[DV.int .i64 ((i : Nat) : Int)]]).length) (IntKind.i64.wrap ((i : Int) + 1)) none (some (.dat 3 1 (O ++ [[.int .i64 ((i : Nat) : Int)]]))))) none) k := by kernel_rfl
theorem s160C_5 (L m : Nat) (ac bs ms qs l O : List (List DV)) (i : Nat) (k : Kont) : LB tab spS lH L (m+4) h160 c16l0 (S160 5 (bk ac bs ms qs) l (.aref 50034 1 0 O.length) i none (some (.dat 3 1 O))) k = stepS 5 ac bs ms qs l (.aref 50034 1 0 O.length) i none (some (.dat 3 1 O)) (cond (rawD O i) (k .nrm (S160 5 (bk ac bs ms qs) l (.aref 34 1 0 (O ++ [[DV.int .i64 ((i : Nat) : Int)]]).length) (IntKind.i64.wrap ((i : Int) + 1)) (some (.dat 3 1 (O ++ [[.int .i64 ((i : Nat) : Int)]]))) none)) none) k := by kernel_rfl
theorem t16_5 (m : Nat) (p0 p1 p2 p3 p4 : List DV) (bs ms qs l : List (List DV)) : FK tab spS lH 20 (m+12) 16 [.agg (bk [p0, p1, p2, p3, p4] bs ms qs), .sla false 7 l] = need (movS.D [.int .i64 5, .sla false 7 l]) (t16R m 5 [p0, p1, p2, p3, p4] bs ms qs l) := by kernel_rfl
theorem s160A_6 (L m : Nat) (ac bs ms qs l : List (List DV)) (i : Nat) (k : Kont) : LB tab spS lH L (m+4) h160 c16l0 (S160 6 (bk ac bs ms qs) l (.d .nilsl) i none none) k = stepS 6 ac bs ms qs l (.d .nilsl) i none none (k .nrm (S160 6 (bk ac bs ms qs) l (.aref 34 1 0 1) (IntKind.i64.wrap ((i : Int) + 1)) (some (.dat 3 1 [[.int .i64 ((i : Nat) : Int)]])) none)) k := by kernel_rfl
theorem s160B_6 (L m : Nat) (ac bs ms qs l O : List (List DV)) (i : Nat) (k : Kont) : LB tab spS lH L (m+4) h160 c16l0 (S160 6 (bk ac bs ms qs) l (.aref 34 1 0 O.length) i (some (.dat 3 1 O)) none) k = stepS 6 ac bs ms qs l (.aref 34 1 0 O.length) i (some (.dat 3 1 O)) none (cond (rawD O i) (k .nrm (S160 6 (bk ac bs ms qs) l (.aref 50034 1 0 (O ++ [[DV.int .i64 ((i : Nat) : Int)]]).length) (IntKind.i64.wrap ((i : Int) + 1)) none (some (.dat 3 1 (O ++ [[.int .i64 ((i : Nat) : Int)]]))))) none) k := by kernel_rfl
theorem s160C_6 (L m : Nat) (ac bs ms qs l O : List (List DV)) (i : Nat) (k : Kont) : LB tab spS lH L (m+4) h160 c16l0 (S160 6 (bk ac bs ms qs) l (.aref 50034 1 0 O.length) i none (some (.dat 3 1 O))) k = stepS 6 ac bs ms qs l (.aref 50034 1 0 O.length) i none (some (.dat 3 1 O)) (cond (rawD O i) (k .nrm (S160 6 (bk ac bs ms qs) l (.aref 34 1 0 (O ++ [[DV.int .i64 ((i : Nat) : Int)]]).length) (IntKind.i64.wrap ((i : Int) + 1)) (some (.dat 3 1 (O ++ [[.int .i64 ((i : Nat) : Int)]]))) none)) none) k := by kernel_rfl
theorem t16_6 (m : Nat) (p0 p1 p2 p3 p4 p5 : List DV) (bs ms qs l : List (List DV)) : FK tab spS lH 20 (m+12) 16 [.agg (bk [p0, p1, p2, p3, p4, p5] bs ms qs), .sla false 7 l] = need (movS.D [.int .i64 6, .sla false 7 l]) (t16R m 6 [p0, p1, p2, p3, p4, p5] bs ms qs l) := by kernel_rfl
theorem s160A {n : Nat} (hn : 1 ≤ n ∧ n ≤ 6) (L m : Nat) (ac bs ms qs l : List (List DV)) (i : Nat) (k : Kont) : LB tab spS lH L (m+4) h160 c16l0 (S160 n (bk ac bs ms qs) l (.d .nilsl) i none none) k = stepS n ac bs ms qs l (.d .nilsl) i none none (k .nrm (S160 n (bk ac bs ms qs) l (.aref 34 1 0 1) (IntKind.i64.wrap ((i : Int) + 1)) (some (.dat 3 1 [[.int .i64 ((i : Nat) : Int)]])) none)) k := by
  match n, hn with
  | 1, _ => exact s160A_1 L m ac bs ms qs l i k
  | 2, _ => exact s160A_2 L m ac bs ms qs l i k
  | 3, _ => exact s160A_3 L m ac bs ms qs l i k
  | 4, _ => exact s160A_4 L m ac bs ms qs l i k
  | 5, _ => exact s160A_5 L m ac bs ms qs l i k
  | 6, _ => exact s160A_6 L m ac bs ms qs l i k
  | 0, h => omega
  | c + 7, h => omega
theorem s160B {n : Nat} (hn : 1 ≤ n ∧ n ≤ 6) (L m : Nat) (ac bs ms qs l O : List (List DV)) (i : Nat) (k : Kont) : LB tab spS lH L (m+4) h160 c16l0 (S160 n (bk ac bs ms qs) l (.aref 34 1 0 O.length) i (some (.dat 3 1 O)) none) k = stepS n ac bs ms qs l (.aref 34 1 0 O.length) i (some (.dat 3 1 O)) none (cond (rawD O i) (k .nrm (S160 n (bk ac bs ms qs) l (.aref 50034 1 0 (O ++ [[DV.int .i64 ((i : Nat) : Int)]]).length) (IntKind.i64.wrap ((i : Int) + 1)) none (some (.dat 3 1 (O ++ [[.int .i64 ((i : Nat) : Int)]]))))) none) k := by
  match n, hn with
  | 1, _ => exact s160B_1 L m ac bs ms qs l O i k
  | 2, _ => exact s160B_2 L m ac bs ms qs l O i k
  | 3, _ => exact s160B_3 L m ac bs ms qs l O i k
  | 4, _ => exact s160B_4 L m ac bs ms qs l O i k
  | 5, _ => exact s160B_5 L m ac bs ms qs l O i k
  | 6, _ => exact s160B_6 L m ac bs ms qs l O i k
  | 0, h => omega
  | c + 7, h => omega
theorem s160C {n : Nat} (hn : 1 ≤ n ∧ n ≤ 6) (L m : Nat) (ac bs ms qs l O : List (List DV)) (i : Nat) (k : Kont) : LB tab spS lH L (m+4) h160 c16l0 (S160 n (bk ac bs ms qs) l (.aref 50034 1 0 O.length) i none (some (.dat 3 1 O))) k = stepS n ac bs ms qs l (.aref 50034 1 0 O.length) i none (some (.dat 3 1 O)) (cond (rawD O i) (k .nrm (S160 n (bk ac bs ms qs) l (.aref 34 1 0 (O ++ [[DV.int .i64 ((i : Nat) : Int)]]).length) (IntKind.i64.wrap ((i : Int) + 1)) (some (.dat 3 1 (O ++ [[.int .i64 ((i : Nat) : Int)]]))) none)) none) k := by
  match n, hn with
  | 1, _ => exact s160C_1 L m ac bs ms qs l O i k
  | 2, _ => exact s160C_2 L m ac bs ms qs l O i k
  | 3, _ => exact s160C_3 L m ac bs ms qs l O i k
  | 4, _ => exact s160C_4 L m ac bs ms qs l O i k
  | 5, _ => exact s160C_5 L m ac bs ms qs l O i k
  | 6, _ => exact s160C_6 L m ac bs ms qs l O i k
  | 0, h => omega
  | c + 7, h => omega
theorem t16 {ac : List (List DV)} (hn : 1 ≤ ac.length ∧ ac.length ≤ 6) (m : Nat) (bs ms qs l : List (List DV)) : FK tab spS lH 20 (m+12) 16 [.agg (bk ac bs ms qs), .sla false 7 l] = need (movS.D [.int .i64 (ac.length : Nat), .sla false 7 l]) (t16R m ac.length ac bs ms qs l) := by
  match ac, hn with
  | [a], _ => exact t16_1 m a bs ms qs l
  | [a, b], _ => exact t16_2 m a b bs ms qs l
  | [a, b, c], _ => exact t16_3 m a b c bs ms qs l
  | [a, b, c, d], _ => exact t16_4 m a b c d bs ms qs l
  | [a, b, c, d, e], _ => exact t16_5 m a b c d e bs ms qs l
  | [a, b, c, d, e, f], _ => exact t16_6 m a b c d e f bs ms qs l
  | [], h => exact absurd h.1 (by simp)
  | a :: b :: c :: d :: e :: f :: g :: t, h =>
    simp only [List.length_cons] at h
    omega
end Go.Proofs.Ythjcfiekdejdgaa
