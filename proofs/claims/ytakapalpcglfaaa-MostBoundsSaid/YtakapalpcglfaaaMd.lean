/- What is known of books, by the runs: do they fit; how much one may send, by halves and at once. No condition. -/
import Derived.Test.YtakapalpcglfaaaMc
namespace Go.Proofs.Ytakapalpcglfaaa
open Go Go.Proofs Go.RowKit Vm
set_option linter.unusedVariables false
set_option linter.unusedSimpArgs false
def allS : FSpec where
  D ds := ∃ ac bs ms qs a0 a1 a2 a3 a4 a5 a6, ds = [.agg (bk ac bs ms qs), .sl .ro 7 [[.int .i64 a0, .int .i64 a1, .int .i64 a2, .int .i64 a3, .int .i64 a4, .int .i64 a5, .int .i64 a6]]]
  val ds := match ds with | [.agg [.sla _ _ ac, .sla _ _ bs, .sla _ _ ms, .sla _ _ qs], .sl _ _ [[_, .int _ f, .int _ t, .int _ a, .int _ c, _, _]]] => some (.bool (mayB ac.length f t a c)) | _ => none
def shtS : FSpec where
  D ds := ∃ ac bs ms qs a0 a1 a2 a3 a4 a5 a6, ds = [.agg (bk ac bs ms qs), .sl .ro 7 [[.int .i64 a0, .int .i64 a1, .int .i64 a2, .int .i64 a3, .int .i64 a4, .int .i64 a5, .int .i64 a6]]] ∧ BK ac bs ms qs ∧ mayB ac.length a1 a2 a3 a4 = true
  val ds := match ds with | [.agg [.sla _ _ ac, .sla _ _ bs, .sla _ _ ms, .sla _ _ qs], .sl _ _ [[_, .int _ f, .int _ t, .int _ a, .int _ c, _, _]]] => some (.sla false 1 (cond (shB ac bs ms qs f.toNat t.toNat a c) [[.int .i64 f]] [])) | _ => none
def fitB (ac bs ms qs : List (List DV)) (f t a c : Int) : Bool := mayB ac.length f t a c && !shB ac bs ms qs f.toNat t.toNat a c
def fitS : FSpec where
  D ds := ∃ ac bs ms qs a0 a1 a2 a3 a4 a5 a6 q, ds = [.agg (bk ac bs ms qs), .sl q 7 [[.int .i64 a0, .int .i64 a1, .int .i64 a2, .int .i64 a3, .int .i64 a4, .int .i64 a5, .int .i64 a6]]] ∧ BK ac bs ms qs
  val ds := match ds with | [.agg [.sla _ _ ac, .sla _ _ bs, .sla _ _ ms, .sla _ _ qs], .sl _ _ [[_, .int _ f, .int _ t, .int _ a, .int _ c, _, _]]] => some (.bool (fitB ac bs ms qs f t a c)) | _ => none
noncomputable def spFt : FuncId → Option FSpec := spAdd 34 allS (spAdd 35 shtS noSp)
noncomputable def spOf : FuncId → Option FSpec := spAdd 25 fitS noSp
noncomputable def spMo : FuncId → Option FSpec := spAdd 33 netS (spAdd 11 roomS (spAdd 32 lefS noSp))
/-- the greatest that does not fall short -/
def topU (ac bs ms qs : List (List DV)) (f t : Nat) (c : Int) : Int :=
  cond (at1 ms f != -1) (min (cond (at2 bs f t != -1) (min (cond (c == 3) (bcI ac f - aci ac f 2) (bcI ac f)) (at2 bs f t - at2 qs f t)) (cond (c == 3) (bcI ac f - aci ac f 2) (bcI ac f))) (at1 ms f - sumR (rw qs f))) (cond (at2 bs f t != -1) (min (cond (c == 3) (bcI ac f - aci ac f 2) (bcI ac f)) (at2 bs f t - at2 qs f t)) (cond (c == 3) (bcI ac f - aci ac f 2) (bcI ac f)))
def topT (ac bs ms qs : List (List DV)) (f t : Nat) (c : Int) : Int := min (topU ac bs ms qs f t c) 1099511627776
def S230 (b : List DV) (p : List DV) (lo hi : Int) : St := St.of [(4, .d (.rptr b 0)), (9, .ptr 9 7 0 0), (10, .d (.int .i64 lo)), (11, .d (.int .i64 hi))] [(4, none), (9, some (.dat 47 7 [p]))]
def l230 : LSpec := fun st => match st.env 4, st.seg 9 with
  | .d (.rptr [.sla _ _ ac, .sla _ _ bs, .sla _ _ ms, .sla _ _ qs] _), some (.dat _ _ [[_, .int _ f, .int _ t, .int _ a, .int _ c, _, _]]) => .one (.ex 0) (St.of [(10, .d (.int .i64 (topT ac bs ms qs f.toNat t.toNat c)))] [])
  | _, _ => .no
def ld (k : Nat) : Option LSpec := if k = 230 then some l230 else none
def ofI (ac bs ms qs : List (List DV)) (f t c : Int) : Int := cond (fitB ac bs ms qs f t 1 c) (topT ac bs ms qs f.toNat t.toNat c) 0
def ofS : FSpec where
  D ds := ∃ ac bs ms qs f t c, ds = [.agg (bk ac bs ms qs), .int .i64 f, .int .i64 t, .int .i64 c] ∧ BK ac bs ms qs
  val ds := match ds with | [.agg [.sla _ _ ac, .sla _ _ bs, .sla _ _ ms, .sla _ _ qs], .int _ f, .int _ t, .int _ c] => some (.int .i64 (ofI ac bs ms qs f t c)) | _ => none
theorem t25 (L n : Nat) (ac bs ms qs : List (List DV)) (a0 a1 a2 a3 a4 a5 a6 : Int) : FK tab spFt ld L (n+8) 25 [.agg (bk ac bs ms qs), .sl .ro 7 [[.int .i64 a0, .int .i64 a1, .int .i64 a2, .int .i64 a3, .int .i64 a4, .int .i64 a5, .int .i64 a6]]] =
   (need
 (allS.D
 [DV.agg [DV.sla false 3 ac, DV.sla false 1 bs, DV.sla false 1 ms, DV.sla false 1 qs],
 DV.sl SK.ro 7
 [[DV.int .i64 a0, DV.int .i64 a1, DV.int .i64 a2, DV.int .i64 a3, DV.int .i64 a4, DV.int .i64 a5, DV.int .i64 a6]]])
 (bif mayB (↑ac.length : Int) a1 a2 a3 a4 then
 need
 (shtS.D
 [DV.agg [DV.sla false 3 ac, DV.sla false 1 bs, DV.sla false 1 ms, DV.sla false 1 qs],
 DV.sl SK.ro 7
 [[DV.int .i64 a0, DV.int .i64 a1, DV.int .i64 a2, DV.int .i64 a3, DV.int .i64 a4, DV.int .i64 a5, DV.int .i64 a6]]])
 (some (DV.bool ((↑(bif shB ac bs ms qs a1.toNat a2.toNat a3 a4 then [[DV.int .i64 a1]] else []).length : Int) == (0 : Int))))
 else some (DV.bool false))) :=
  (show FK tab spFt ld L (n+8) 25 [.agg (bk ac bs ms qs), .sl .ro 7 [[.int .i64 a0, .int .i64 a1, .int .i64 a2, .int .i64 a3, .int .i64 a4, .int .i64 a5, .int .i64 a6]]] =
 (need (FSpec.D (allS) [(.agg [(.sla false 3 ac), (.sla false 1 bs), (.sla false 1 ms), (.sla false 1 qs)]), (.sl (SK.ro) 7 [[(.int .i64 a0), (.int .i64 a1), (.int .i64 a2), (.int .i64 a3), (.int .i64 a4), (.int .i64 a5), (.int .i64 a6)]])])
 (cond (mayB (↑ac.length : Int) a1 a2 a3 a4)
 (need (FSpec.D (shtS) [(.agg [(.sla false 3 ac), (.sla false 1 bs), (.sla false 1 ms), (.sla false 1 qs)]), (.sl (SK.ro) 7 [[(.int .i64 a0), (.int .i64 a1), (.int .i64 a2), (.int .i64 a3), (.int .i64 a4), (.int .i64 a5), (.int .i64 a6)]])])
 (some (.bool ((↑(bif shB ac bs ms qs a1.toNat a2.toNat a3 a4 then [[DV.int .i64 a1]] else []).length : Int) == (0 : Int)))))
 (some (.bool false)))) from by kernel_rfl).trans (by first | rfl | (simp only [decide_true, decide_false, eq_self, and_true, true_and, and_self, cond_true, cond_false, Nat.le_refl, Int.le_refl, Option.getD_some, Option.getD_none, Int.toNat_natCast, List.take_length, List.drop_zero, Nat.zero_add, List.nil_append, List.all_nil, List.append_nil, Bool.true_and, Bool.and_true, rowsA_sla, rowsA_sl, rowsA_nil, minus_zero, nat_le_cast, nat_nonneg, Option.isSome_some, Option.isSome_none, Bool.false_eq_true, false_and, and_false, if_true, if_false, implies_true, Int.toNat_zero, Bool.not_false, Bool.not_true, bne_self_eq_false]; done) | (simp only [decide_true, decide_false, eq_self, and_true, true_and, and_self, cond_true, cond_false, Nat.le_refl, Int.le_refl, Option.getD_some, Option.getD_none, Int.toNat_natCast, List.take_length, List.drop_zero, Nat.zero_add, List.nil_append, List.all_nil, List.append_nil, Bool.true_and, Bool.and_true, rowsA_sla, rowsA_sl, rowsA_nil, minus_zero, nat_le_cast, nat_nonneg, Option.isSome_some, Option.isSome_none, Bool.false_eq_true, false_and, and_false, if_true, if_false, implies_true, Int.toNat_zero, Bool.not_false, Bool.not_true, bne_self_eq_false]; rfl))
theorem s230 (L n : Nat) (ac bs ms qs : List (List DV)) (lo hi a0 a1 a2 a3 a4 a5 a6 : Int) (k : Kont) : LB tab spOf ld L (n+4) h230 c23l0 (S230 (bk ac bs ms qs) [.int .i64 a0, .int .i64 a1, .int .i64 a2, .int .i64 a3, .int .i64 a4, .int .i64 a5, .int .i64 a6] lo hi) k =
   (bif decide (IntKind.i64.wrap (hi - lo) > (1 : Int)) then
 need
 (fitS.D
 [DV.agg [DV.sla false 3 ac, DV.sla false 1 bs, DV.sla false 1 ms, DV.sla false 1 qs],
 DV.sl SK.tight 7
 [[DV.int .i64 a0, DV.int .i64 a1, DV.int .i64 a2, DV.int .i64 (IntKind.i64.wrap (lo + IntKind.i64.wrap ((IntKind.i64.wrap (hi - lo)).tdiv (2 : Int)))), DV.int .i64 a4, DV.int .i64 a5, DV.int .i64 a6]]])
 (bif fitB ac bs ms qs a1 a2 (IntKind.i64.wrap (lo + IntKind.i64.wrap ((IntKind.i64.wrap (hi - lo)).tdiv (2 : Int)))) a4 then
 k Ex.nrm
 (St.of
 [((4 : Nat),
 AV.d (DV.rptr [DV.sla false 3 ac, DV.sla false 1 bs, DV.sla false 1 ms, DV.sla false 1 qs] (0 : Nat))),
 ((9 : Nat), AV.ptr 9 7 0 0),
 ((10 : Nat), AV.d (DV.int .i64 (IntKind.i64.wrap (lo + IntKind.i64.wrap ((IntKind.i64.wrap (hi - lo)).tdiv (2 : Int)))))),
 ((11 : Nat), AV.d (DV.int .i64 hi))]
 [(4, none),
 ((9 : Nat),
 some
 (Ob.dat 47 7
 [[DV.int .i64 a0, DV.int .i64 a1, DV.int .i64 a2, DV.int .i64 (IntKind.i64.wrap (lo + IntKind.i64.wrap ((IntKind.i64.wrap (hi - lo)).tdiv (2 : Int)))), DV.int .i64 a4, DV.int .i64 a5, DV.int .i64 a6]]))])
 else
 k Ex.nrm
 (St.of
 [((4 : Nat),
 AV.d (DV.rptr [DV.sla false 3 ac, DV.sla false 1 bs, DV.sla false 1 ms, DV.sla false 1 qs] (0 : Nat))),
 ((9 : Nat), AV.ptr 9 7 0 0), (10, AV.d (DV.int .i64 lo)),
 ((11 : Nat), AV.d (DV.int .i64 (IntKind.i64.wrap (lo + IntKind.i64.wrap ((IntKind.i64.wrap (hi - lo)).tdiv (2 : Int))))))]
 [(4, none),
 ((9 : Nat),
 some
 (Ob.dat 47 7
 [[DV.int .i64 a0, DV.int .i64 a1, DV.int .i64 a2, DV.int .i64 (IntKind.i64.wrap (lo + IntKind.i64.wrap ((IntKind.i64.wrap (hi - lo)).tdiv (2 : Int)))), DV.int .i64 a4, DV.int .i64 a5, DV.int .i64 a6]]))]))
 else k (Ex.ex (0 : Nat)) (St.of [(10, AV.d (DV.int .i64 lo))] [])) :=
  (show LB tab spOf ld L (n+4) h230 c23l0 (S230 (bk ac bs ms qs) [.int .i64 a0, .int .i64 a1, .int .i64 a2, .int .i64 a3, .int .i64 a4, .int .i64 a5, .int .i64 a6] lo hi) k =
 (cond (decide (IntKind.i64.wrap (hi - lo) > (1 : Int)))
 (need (FSpec.D (fitS) [(.agg [(.sla false 3 ac), (.sla false 1 bs), (.sla false 1 ms), (.sla false 1 qs)]), (.sl (SK.tight) 7 [[(.int .i64 a0), (.int .i64 a1), (.int .i64 a2), (.int .i64 (IntKind.i64.wrap (lo + IntKind.i64.wrap ((IntKind.i64.wrap (hi - lo)).tdiv (2 : Int))))), (.int .i64 a4), (.int .i64 a5), (.int .i64 a6)]])])
 (cond (fitB ac bs ms qs a1 a2 (IntKind.i64.wrap (lo + IntKind.i64.wrap ((IntKind.i64.wrap (hi - lo)).tdiv (2 : Int)))) a4)
 (k .nrm (St.of [(4, (.d (.rptr [(.sla false 3 ac), (.sla false 1 bs), (.sla false 1 ms), (.sla false 1 qs)] 0))), (9, (.ptr 9 7 0 0)), (10, (.d (.int .i64 (IntKind.i64.wrap (lo + IntKind.i64.wrap ((IntKind.i64.wrap (hi - lo)).tdiv (2 : Int))))))), (11, (.d (.int .i64 hi)))] [(4, .none), (9, (.some (.dat 47 7 [[(.int .i64 a0), (.int .i64 a1), (.int .i64 a2), (.int .i64 (IntKind.i64.wrap (lo + IntKind.i64.wrap ((IntKind.i64.wrap (hi - lo)).tdiv (2 : Int))))), (.int .i64 a4), (.int .i64 a5), (.int .i64 a6)]])))]))
 (k .nrm (St.of [(4, (.d (.rptr [(.sla false 3 ac), (.sla false 1 bs), (.sla false 1 ms), (.sla false 1 qs)] 0))), (9, (.ptr 9 7 0 0)), (10, (.d (.int .i64 lo))), (11, (.d (.int .i64 (IntKind.i64.wrap (lo + IntKind.i64.wrap ((IntKind.i64.wrap (hi - lo)).tdiv (2 : Int)))))))] [(4, .none), (9, (.some (.dat 47 7 [[(.int .i64 a0), (.int .i64 a1), (.int .i64 a2), (.int .i64 (IntKind.i64.wrap (lo + IntKind.i64.wrap ((IntKind.i64.wrap (hi - lo)).tdiv (2 : Int))))), (.int .i64 a4), (.int .i64 a5), (.int .i64 a6)]])))]))))
 (k (.ex 0) (St.of [(10, (.d (.int .i64 lo)))] []))) from by kernel_rfl).trans (by first | rfl | (simp only [decide_true, decide_false, eq_self, and_true, true_and, and_self, cond_true, cond_false, Nat.le_refl, Int.le_refl, Option.getD_some, Option.getD_none, Int.toNat_natCast, List.take_length, List.drop_zero, Nat.zero_add, List.nil_append, List.all_nil, List.append_nil, Bool.true_and, Bool.and_true, rowsA_sla, rowsA_sl, rowsA_nil, minus_zero, nat_le_cast, nat_nonneg, Option.isSome_some, Option.isSome_none, Bool.false_eq_true, false_and, and_false, if_true, if_false, implies_true, Int.toNat_zero, Bool.not_false, Bool.not_true, bne_self_eq_false]; done) | (simp only [decide_true, decide_false, eq_self, and_true, true_and, and_self, cond_true, cond_false, Nat.le_refl, Int.le_refl, Option.getD_some, Option.getD_none, Int.toNat_natCast, List.take_length, List.drop_zero, Nat.zero_add, List.nil_append, List.all_nil, List.append_nil, Bool.true_and, Bool.and_true, rowsA_sla, rowsA_sl, rowsA_nil, minus_zero, nat_le_cast, nat_nonneg, Option.isSome_some, Option.isSome_none, Bool.false_eq_true, false_and, and_false, if_true, if_false, implies_true, Int.toNat_zero, Bool.not_false, Bool.not_true, bne_self_eq_false]; rfl))
theorem t23 (L n : Nat) (ac bs ms qs : List (List DV)) (f t c : Int) : FK tab spOf ld L (n+8) 23 [.agg (bk ac bs ms qs), .int .i64 f, .int .i64 t, .int .i64 c] =
   (need
 (fitS.D
 [DV.agg [DV.sla false 3 ac, DV.sla false 1 bs, DV.sla false 1 ms, DV.sla false 1 qs],
 DV.sl SK.tight 7
 [[DV.int .i64 0, DV.int .i64 f, DV.int .i64 t, DV.int .i64 1, DV.int .i64 c, DV.int .i64 0, DV.int .i64 0]]])
 (bif !fitB ac bs ms qs f t (1 : Int) c then some (DV.int .i64 0)
 else
 need
 (LoopOk (LB tab spOf ld L (n + (8 : Nat)) h230 c23l0)
 (St.of
 [((4 : Nat),
 AV.d (DV.rptr [DV.sla false 3 ac, DV.sla false 1 bs, DV.sla false 1 ms, DV.sla false 1 qs] (0 : Nat))),
 ((9 : Nat), AV.ptr 9 7 0 0), (10, AV.d (DV.int .i64 1)),
 ((11 : Nat), AV.d (DV.int .i64 1099511627777))]
 [(4, none),
 ((9 : Nat),
 some
 (Ob.dat 47 7
 [[DV.int .i64 0, DV.int .i64 f, DV.int .i64 t, DV.int .i64 1, DV.int .i64 c, DV.int .i64 0, DV.int .i64 0]]))])
 (Ex.ex (0 : Nat), St.of [(10, AV.d (DV.int .i64 (topT ac bs ms qs f.toNat t.toNat c)))] []))
 (some (DV.int .i64 (topT ac bs ms qs f.toNat t.toNat c))))) :=
  (show FK tab spOf ld L (n+8) 23 [.agg (bk ac bs ms qs), .int .i64 f, .int .i64 t, .int .i64 c] =
 (need (FSpec.D (fitS) [(.agg [(.sla false 3 ac), (.sla false 1 bs), (.sla false 1 ms), (.sla false 1 qs)]), (.sl (SK.tight) 7 [[(.int .i64 ((0 : Int))), (.int .i64 f), (.int .i64 t), (.int .i64 ((1 : Int))), (.int .i64 c), (.int .i64 ((0 : Int))), (.int .i64 ((0 : Int)))]])])
 (cond (!fitB ac bs ms qs f t (1 : Int) c)
 (some (.int .i64 ((0 : Int))))
 (need (LoopOk (LB tab spOf ld L (n + (8 : Nat)) h230 c23l0) (St.of [(4, (.d (.rptr [(.sla false 3 ac), (.sla false 1 bs), (.sla false 1 ms), (.sla false 1 qs)] 0))), (9, (.ptr 9 7 0 0)), (10, (.d (.int .i64 ((1 : Int))))), (11, (.d (.int .i64 ((1099511627777 : Int)))))] [(4, .none), (9, (.some (.dat 47 7 [[(.int .i64 ((0 : Int))), (.int .i64 f), (.int .i64 t), (.int .i64 ((1 : Int))), (.int .i64 c), (.int .i64 ((0 : Int))), (.int .i64 ((0 : Int)))]])))]) ((.ex 0), (St.of [(10, (.d (.int .i64 (topT ac bs ms qs f.toNat t.toNat c))))] [])))
 (some (.int .i64 (topT ac bs ms qs f.toNat t.toNat c)))))) from by kernel_rfl).trans (by first | rfl | (simp only [decide_true, decide_false, eq_self, and_true, true_and, and_self, cond_true, cond_false, Nat.le_refl, Int.le_refl, Option.getD_some, Option.getD_none, Int.toNat_natCast, List.take_length, List.drop_zero, Nat.zero_add, List.nil_append, List.all_nil, List.append_nil, Bool.true_and, Bool.and_true, rowsA_sla, rowsA_sl, rowsA_nil, minus_zero, nat_le_cast, nat_nonneg, Option.isSome_some, Option.isSome_none, Bool.false_eq_true, false_and, and_false, if_true, if_false, implies_true, Int.toNat_zero, Bool.not_false, Bool.not_true, bne_self_eq_false]; done) | (simp only [decide_true, decide_false, eq_self, and_true, true_and, and_self, cond_true, cond_false, Nat.le_refl, Int.le_refl, Option.getD_some, Option.getD_none, Int.toNat_natCast, List.take_length, List.drop_zero, Nat.zero_add, List.nil_append, List.all_nil, List.append_nil, Bool.true_and, Bool.and_true, rowsA_sla, rowsA_sl, rowsA_nil, minus_zero, nat_le_cast, nat_nonneg, Option.isSome_some, Option.isSome_none, Bool.false_eq_true, false_and, and_false, if_true, if_false, implies_true, Int.toNat_zero, Bool.not_false, Bool.not_true, bne_self_eq_false]; rfl))
theorem t22o (L n : Nat) (ac bs ms qs : List (List DV)) (f t c : Int) : FK tab spMo ld L (n+8) 22 [.agg (bk ac bs ms qs), .int .i64 f, .int .i64 t, .int .i64 c] =
   (bif
 !bif
 bif
 bif
 bif
 bif
 bif bif bif decide (f ≥ (0 : Int)) then decide (f < (↑ac.length : Int)) else false then decide (t ≥ (0 : Int)) else false then
 decide (t < (↑ac.length : Int))
 else false then
 f != t
 else false then
 true
 else false then
 true
 else false then
 decide (c ≥ (1 : Int))
 else false then
 decide (c ≤ (3 : Int))
 else false then
 some (DV.int .i64 0)
 else
 bif decide ((0 : Int) ≤ f) then
 lookK ac[f.toNat]? fun (e2 : List DV) =>
 bif okRow [DV.int .i64 0, DV.int .i64 0, DV.int .i64 0] e2 then
 need
 (roomS.D
 [DV.agg [DV.int .i64 (cellA e2 0).toI, DV.int .i64 (cellA e2 1).toI, DV.int .i64 (cellA e2 2).toI], DV.int .i64 c])
 (bif decide ((0 : Int) ≤ f) then
 lookK qs[f.toNat]? fun (e7 : List DV) =>
 bif okRow [DV.nilsl] e7 then
 bif decide ((1 : Nat) = (cellA e7 0).slZ) then
 bif decide ((0 : Int) ≤ t) then
 lookK (cellA e7 0).slR[t.toNat]? fun (e12 : List DV) =>
 bif okRow [DV.int .i64 0] e12 then
 bif decide ((0 : Int) ≤ f) then
 lookK bs[f.toNat]? fun (e16 : List DV) =>
 bif okRow [DV.nilsl] e16 then
 bif decide ((1 : Nat) = (cellA e16 0).slZ) then
 bif decide ((0 : Int) ≤ t) then
 lookK (cellA e16 0).slR[t.toNat]? fun (e21 : List DV) =>
 bif okRow [DV.int .i64 0] e21 then
 need
 (lefS.D
 [DV.int .i64 (cellA e12 0).toI, DV.int .i64 (cellA e21 0).toI, DV.int .i64
 (if
 (1099511627776 : Int) <
 if
 IntKind.i64.wrap ((cellA e2 0).toI + (cellA e2 1).toI) <
 roomI (cellA e2 0).toI (cellA e2 1).toI (cellA e2 2).toI c then
 IntKind.i64.wrap ((cellA e2 0).toI + (cellA e2 1).toI)
 else roomI (cellA e2 0).toI (cellA e2 1).toI (cellA e2 2).toI c then
 (1099511627776 : Int)
 else
 if
 IntKind.i64.wrap ((cellA e2 0).toI + (cellA e2 1).toI) <
 roomI (cellA e2 0).toI (cellA e2 1).toI (cellA e2 2).toI c then
 IntKind.i64.wrap ((cellA e2 0).toI + (cellA e2 1).toI)
 else roomI (cellA e2 0).toI (cellA e2 1).toI (cellA e2 2).toI c)])
 (need
 (netS.D
 [DV.agg
 [DV.sla false 3 ac, DV.sla false 1 bs, DV.sla false 1 ms,
 DV.sla false 1 qs], DV.int .i64 f])
 (bif decide ((0 : Int) ≤ f) then
 lookK ms[f.toNat]? fun (e27 : List DV) =>
 bif okRow [DV.int .i64 0] e27 then
 need
 (lefS.D
 [DV.int .i64 (sumR (rw qs f.toNat)), DV.int .i64 (cellA e27 0).toI, DV.int .i64
 (lefI (cellA e12 0).toI (cellA e21 0).toI
 (if
 (1099511627776 : Int) <
 if
 IntKind.i64.wrap ((cellA e2 0).toI + (cellA e2 1).toI) <
 roomI (cellA e2 0).toI (cellA e2 1).toI (cellA e2 2).toI c then
 IntKind.i64.wrap ((cellA e2 0).toI + (cellA e2 1).toI)
 else roomI (cellA e2 0).toI (cellA e2 1).toI (cellA e2 2).toI c then
 (1099511627776 : Int)
 else
 if
 IntKind.i64.wrap ((cellA e2 0).toI + (cellA e2 1).toI) <
 roomI (cellA e2 0).toI (cellA e2 1).toI (cellA e2 2).toI c then
 IntKind.i64.wrap ((cellA e2 0).toI + (cellA e2 1).toI)
 else roomI (cellA e2 0).toI (cellA e2 1).toI (cellA e2 2).toI c))])
 (some
 (DV.int .i64
 (if
 (0 : Int) >
 lefI (sumR (rw qs f.toNat)) (cellA e27 0).toI
 (lefI (cellA e12 0).toI (cellA e21 0).toI
 (if
 (1099511627776 : Int) <
 if
 IntKind.i64.wrap ((cellA e2 0).toI + (cellA e2 1).toI) <
 roomI (cellA e2 0).toI (cellA e2 1).toI (cellA e2 2).toI
 c then
 IntKind.i64.wrap ((cellA e2 0).toI + (cellA e2 1).toI)
 else
 roomI (cellA e2 0).toI (cellA e2 1).toI (cellA e2 2).toI c then
 (1099511627776 : Int)
 else
 if
 IntKind.i64.wrap ((cellA e2 0).toI + (cellA e2 1).toI) <
 roomI (cellA e2 0).toI (cellA e2 1).toI (cellA e2 2).toI c then
 IntKind.i64.wrap ((cellA e2 0).toI + (cellA e2 1).toI)
 else
 roomI (cellA e2 0).toI (cellA e2 1).toI (cellA e2 2).toI c)) then
 (0 : Int)
 else
 lefI (sumR (rw qs f.toNat)) (cellA e27 0).toI
 (lefI (cellA e12 0).toI (cellA e21 0).toI
 (if
 (1099511627776 : Int) <
 if
 IntKind.i64.wrap ((cellA e2 0).toI + (cellA e2 1).toI) <
 roomI (cellA e2 0).toI (cellA e2 1).toI (cellA e2 2).toI c then
 IntKind.i64.wrap ((cellA e2 0).toI + (cellA e2 1).toI)
 else roomI (cellA e2 0).toI (cellA e2 1).toI (cellA e2 2).toI c then
 (1099511627776 : Int)
 else
 if
 IntKind.i64.wrap ((cellA e2 0).toI + (cellA e2 1).toI) <
 roomI (cellA e2 0).toI (cellA e2 1).toI (cellA e2 2).toI c then
 IntKind.i64.wrap ((cellA e2 0).toI + (cellA e2 1).toI)
 else roomI (cellA e2 0).toI (cellA e2 1).toI (cellA e2 2).toI c)))))
 else none
 else none))
 else none
 else none
 else none
 else none
 else none
 else none
 else none
 else none
 else none
 else none)
 else none
 else none) :=
  (show FK tab spMo ld L (n+8) 22 [.agg (bk ac bs ms qs), .int .i64 f, .int .i64 t, .int .i64 c] =
 (cond (!bif bif bif bif bif bif bif bif decide (f ≥ (0 : Int)) then decide (f < (↑ac.length : Int)) else false then decide (t ≥ (0 : Int)) else false then decide (t < (↑ac.length : Int)) else false then f != t else false then decide ((1 : Int) ≥ (1 : Int)) else false then decide ((1 : Int) ≤ (1099511627776 : Int)) else false then decide (c ≥ (1 : Int)) else false then decide (c ≤ (3 : Int)) else false)
 (some (.int .i64 ((0 : Int))))
 (cond (decide ((0 : Int) ≤ f))
 (lookK (ac[f.toNat]?)
 fun e2 =>
 (cond (okRow [DV.int .i64 0, DV.int .i64 0, DV.int .i64 0] e2)
 (need (FSpec.D (roomS) [(.agg [(.int .i64 ((cellA e2 0).toI)), (.int .i64 ((cellA e2 1).toI)), (.int .i64 ((cellA e2 2).toI))]), (.int .i64 c)])
 (cond (decide ((0 : Int) ≤ f))
 (lookK (qs[f.toNat]?)
 fun e7 =>
 (cond (okRow [DV.nilsl] e7)
 (cond (decide ((1 : Nat) = (cellA e7 0).slZ))
 (cond (decide ((0 : Int) ≤ t))
 (lookK ((cellA e7 0).slR[t.toNat]?)
 fun e12 =>
 (cond (okRow [DV.int .i64 0] e12)
 (cond (decide ((0 : Int) ≤ f))
 (lookK (bs[f.toNat]?)
 fun e16 =>
 (cond (okRow [DV.nilsl] e16)
 (cond (decide ((1 : Nat) = (cellA e16 0).slZ))
 (cond (decide ((0 : Int) ≤ t))
 (lookK ((cellA e16 0).slR[t.toNat]?)
 fun e21 =>
 (cond (okRow [DV.int .i64 0] e21)
 (need (FSpec.D (lefS) [(.int .i64 ((cellA e12 0).toI)), (.int .i64 ((cellA e21 0).toI)), (.int .i64 (if (1099511627776 : Int) < if IntKind.i64.wrap ((cellA e2 0).toI + (cellA e2 1).toI) < roomI (cellA e2 0).toI (cellA e2 1).toI (cellA e2 2).toI c then IntKind.i64.wrap ((cellA e2 0).toI + (cellA e2 1).toI) else roomI (cellA e2 0).toI (cellA e2 1).toI (cellA e2 2).toI c then (1099511627776 : Int) else if IntKind.i64.wrap ((cellA e2 0).toI + (cellA e2 1).toI) < roomI (cellA e2 0).toI (cellA e2 1).toI (cellA e2 2).toI c then IntKind.i64.wrap ((cellA e2 0).toI + (cellA e2 1).toI) else roomI (cellA e2 0).toI (cellA e2 1).toI (cellA e2 2).toI c))])
 (need (FSpec.D (netS) [(.agg [(.sla false 3 ac), (.sla false 1 bs), (.sla false 1 ms), (.sla false 1 qs)]), (.int .i64 f)])
 (cond (decide ((0 : Int) ≤ f))
 (lookK (ms[f.toNat]?)
 fun e27 =>
 (cond (okRow [DV.int .i64 0] e27)
 (need (FSpec.D (lefS) [(.int .i64 (sumR (rw qs f.toNat))), (.int .i64 ((cellA e27 0).toI)), (.int .i64 (lefI (cellA e12 0).toI (cellA e21 0).toI (if (1099511627776 : Int) < if IntKind.i64.wrap ((cellA e2 0).toI + (cellA e2 1).toI) < roomI (cellA e2 0).toI (cellA e2 1).toI (cellA e2 2).toI c then IntKind.i64.wrap ((cellA e2 0).toI + (cellA e2 1).toI) else roomI (cellA e2 0).toI (cellA e2 1).toI (cellA e2 2).toI c then (1099511627776 : Int) else if IntKind.i64.wrap ((cellA e2 0).toI + (cellA e2 1).toI) < roomI (cellA e2 0).toI (cellA e2 1).toI (cellA e2 2).toI c then IntKind.i64.wrap ((cellA e2 0).toI + (cellA e2 1).toI) else roomI (cellA e2 0).toI (cellA e2 1).toI (cellA e2 2).toI c)))])
 (some (.int .i64 (if (0 : Int) > lefI (sumR (rw qs f.toNat)) (cellA e27 0).toI (lefI (cellA e12 0).toI (cellA e21 0).toI (if (1099511627776 : Int) < if IntKind.i64.wrap ((cellA e2 0).toI + (cellA e2 1).toI) < roomI (cellA e2 0).toI (cellA e2 1).toI (cellA e2 2).toI c then IntKind.i64.wrap ((cellA e2 0).toI + (cellA e2 1).toI) else roomI (cellA e2 0).toI (cellA e2 1).toI (cellA e2 2).toI c then (1099511627776 : Int) else if IntKind.i64.wrap ((cellA e2 0).toI + (cellA e2 1).toI) < roomI (cellA e2 0).toI (cellA e2 1).toI (cellA e2 2).toI c then IntKind.i64.wrap ((cellA e2 0).toI + (cellA e2 1).toI) else roomI (cellA e2 0).toI (cellA e2 1).toI (cellA e2 2).toI c)) then (0 : Int) else lefI (sumR (rw qs f.toNat)) (cellA e27 0).toI (lefI (cellA e12 0).toI (cellA e21 0).toI (if (1099511627776 : Int) < if IntKind.i64.wrap ((cellA e2 0).toI + (cellA e2 1).toI) < roomI (cellA e2 0).toI (cellA e2 1).toI (cellA e2 2).toI c then IntKind.i64.wrap ((cellA e2 0).toI + (cellA e2 1).toI) else roomI (cellA e2 0).toI (cellA e2 1).toI (cellA e2 2).toI c then (1099511627776 : Int) else if IntKind.i64.wrap ((cellA e2 0).toI + (cellA e2 1).toI) < roomI (cellA e2 0).toI (cellA e2 1).toI (cellA e2 2).toI c then IntKind.i64.wrap ((cellA e2 0).toI + (cellA e2 1).toI) else roomI (cellA e2 0).toI (cellA e2 1).toI (cellA e2 2).toI c))))))
 none))
 none)))
 none))
 none)
 none)
 none))
 none)
 none))
 none)
 none)
 none))
 none))
 none))
 none)) from by kernel_rfl).trans (by first | rfl | (simp only [decide_true, decide_false, eq_self, and_true, true_and, and_self, cond_true, cond_false, Nat.le_refl, Int.le_refl, Option.getD_some, Option.getD_none, Int.toNat_natCast, List.take_length, List.drop_zero, Nat.zero_add, List.nil_append, List.all_nil, List.append_nil, Bool.true_and, Bool.and_true, rowsA_sla, rowsA_sl, rowsA_nil, minus_zero, nat_le_cast, nat_nonneg, Option.isSome_some, Option.isSome_none, Bool.false_eq_true, false_and, and_false, if_true, if_false, implies_true, Int.toNat_zero, Bool.not_false, Bool.not_true, bne_self_eq_false]; done) | (simp only [decide_true, decide_false, eq_self, and_true, true_and, and_self, cond_true, cond_false, Nat.le_refl, Int.le_refl, Option.getD_some, Option.getD_none, Int.toNat_natCast, List.take_length, List.drop_zero, Nat.zero_add, List.nil_append, List.all_nil, List.append_nil, Bool.true_and, Bool.and_true, rowsA_sla, rowsA_sl, rowsA_nil, minus_zero, nat_le_cast, nat_nonneg, Option.isSome_some, Option.isSome_none, Bool.false_eq_true, false_and, and_false, if_true, if_false, implies_true, Int.toNat_zero, Bool.not_false, Bool.not_true, bne_self_eq_false]; rfl))
theorem all34 : allS.ok Try.prog 34 := fun ds r hD hv => by
  obtain ⟨ac, bs, ms, qs, a0, a1, a2, a3, a4, a5, a6, rfl⟩ := hD
  cases hv
  refine spec_run (lsp := lc) tab_ok noSp_ok 20 (0 + 8) ((t34 0 ac bs ms qs a0 a1 a2 a3 a4 a5 a6).trans ?_)
  show cond (!mayB ac.length a1 a2 a3 a4) (some (DV.bool false)) (some (.bool true)) = some (.bool (mayB ac.length a1 a2 a3 a4))
  cases mayB ac.length a1 a2 a3 a4 <;> rfl
theorem loop350 (L n : Nat) {ac bs ms qs : List (List DV)} (hB : BK ac bs ms qs) {f : Nat} {a0 a2 a3 a4 a5 a6 : Int} (hm : mayB ac.length ((f : Nat) : Int) a2 a3 a4 = true) :
    LoopOk (LB tab spU lc L (n+4) h350 c35l0) (S350 (bk ac bs ms qs) [.int .i64 a0, .int .i64 ((f : Nat) : Int), .int .i64 a2, .int .i64 a3, .int .i64 a4, .int .i64 a5, .int .i64 a6] (.d .nilsl) 0 [(21, none), (50021, none)])
      (cond (shB ac bs ms qs f a2.toNat a3 a4) (.ex 0, St.of [(5, .aref 21 1 0 1)] [(21, some (.dat 3 1 [[.int .i64 ((f : Nat) : Int)]])), (50021, none)]) (.ex 0, St.of [(5, .d .nilsl)] [(21, none), (50021, none)])) := by
  have hn6 := hB.n6
  have hf : f < ac.length := by
    have := mayB_iff.1 hm
    omega
  have nS : ∀ i, i < ac.length → shoS.D [.agg (bk ac bs ms qs), .sl .ro 7 [[.int .i64 a0, .int .i64 ((f : Nat) : Int), .int .i64 a2, .int .i64 a3, .int .i64 a4, .int .i64 a5, .int .i64 a6]], .int .i64 ((i : Nat) : Int)] := fun i hi => ⟨_, _, _, _, _, _, _, _, _, _, _, _, rfl, hB, hi, hm⟩
  refine loop_meas (fun i : Nat => cond (decide (f < i) && shB ac bs ms qs f a2.toNat a3 a4) (S350 (bk ac bs ms qs) [.int .i64 a0, .int .i64 ((f : Nat) : Int), .int .i64 a2, .int .i64 a3, .int .i64 a4, .int .i64 a5, .int .i64 a6] (.aref 21 1 0 1) (i : Nat) [(21, some (.dat 3 1 [[.int .i64 ((f : Nat) : Int)]])), (50021, none)])
      (S350 (bk ac bs ms qs) [.int .i64 a0, .int .i64 ((f : Nat) : Int), .int .i64 a2, .int .i64 a3, .int .i64 a4, .int .i64 a5, .int .i64 a6] (.d .nilsl) (i : Nat) [(21, none), (50021, none)]))
    (fun i => ac.length - i) (fun i => i ≤ ac.length) (fun _ => cond (shB ac bs ms qs f a2.toNat a3 a4) (.ex 0, St.of [(5, .aref 21 1 0 1)] [(21, some (.dat 3 1 [[.int .i64 ((f : Nat) : Int)]])), (50021, none)]) (.ex 0, St.of [(5, .d .nilsl)] [(21, none), (50021, none)]))
    (fun i hs => ?_) 0 (Nat.zero_le _)
  by_cases hi : i < ac.length
  · left
    refine ⟨i + 1, hi, by omega, rfl, fun k => ?_⟩
    by_cases h1 : f < i
    · have h2 : (((f : Nat) : Int) == ((i : Nat) : Int)) = false := beq_eq_false_iff_ne.2 (by omega)
      rw [decide_eq_true h1, decide_eq_true (show f < i + 1 by omega), Bool.true_and]
      cases shB ac bs ms qs f a2.toNat a3 a4 with
      | true =>
        rw [cond_true, cond_true, s350a, lt_dec hi, cond_true, wrap_succ (by omega), h2]
        exact need_pos (nS i hi)
      | false =>
        rw [cond_false, cond_false, s350n, lt_dec hi, cond_true, wrap_succ (by omega), h2]
        exact need_pos (nS i hi)
    · rw [decide_eq_false h1, Bool.false_and, cond_false, s350n, lt_dec hi, cond_true, wrap_succ (by omega)]
      refine (need_pos (nS i hi)).trans ?_
      rw [Int.toNat_natCast]
      by_cases h3 : i = f
      · subst h3
        rw [beq_self_eq_true, cond_true, decide_eq_true (show i < i + 1 by omega), Bool.true_and]
        cases shB ac bs ms qs i a2.toNat a3 a4 <;> rfl
      · rw [show (((f : Nat) : Int) == ((i : Nat) : Int)) = false from beq_eq_false_iff_ne.2 (by omega), decide_eq_false (show ¬ f < i + 1 by omega)]
        rfl
  · right
    have : i = ac.length := by omega
    subst this
    rw [decide_eq_true hf, Bool.true_and]
    cases shB ac bs ms qs f a2.toNat a3 a4 with
    | true => exact ⟨by simp, fun k => by rw [cond_true, s350a, lt_dec_self]; rfl⟩
    | false => exact ⟨by simp, fun k => by rw [cond_false, s350n, lt_dec_self]; rfl⟩
theorem sht35 : shtS.ok Try.prog 35 := fun ds r hD hv => by
  obtain ⟨ac, bs, ms, qs, a0, a1, a2, a3, a4, a5, a6, rfl, hB, hm⟩ := hD
  cases hv
  obtain ⟨f, rfl⟩ : ∃ f : Nat, a1 = (f : Int) := ⟨a1.toNat, by have := mayB_iff.1 hm; omega⟩
  have hL := loop350 20 (0 + 4) hB hm (a0 := a0) (a5 := a5) (a6 := a6)
  have h := t35 0 ac bs ms qs a0 f a2 a3 a4 a5 a6
  rw [Int.toNat_natCast] at h ⊢
  cases hs : shB ac bs ms qs f a2.toNat a3 a4 with
  | true =>
    rw [hs] at h hL
    exact (spec_run (lsp := lc) tab_ok spU_ok 20 (0 + 8) (h.trans (need_pos hL))).res (r := .sl (.own 3) 1 [[.int .i64 ((f : Nat) : Int)]]) (DLe.sl _ _ _) rfl
  | false =>
    rw [hs] at h hL
    exact (spec_run (lsp := lc) tab_ok spU_ok 20 (0 + 8) (h.trans (need_pos hL))).res (r := .nilsl) (DLe.nil _ _) rfl
theorem spFt_ok : ∀ f s, spFt f = some s → s.ok Try.prog f := spAdd_ok all34 (spAdd_ok sht35 noSp_ok)
theorem fit25 : fitS.ok Try.prog 25 := fun ds r hD hv => by
  obtain ⟨ac, bs, ms, qs, a0, a1, a2, a3, a4, a5, a6, q, rfl, hB⟩ := hD
  cases hv
  refine EntX.args (LLe.cons (DLe.refl _) (LLe.cons (DLe.ro q _ _) (LLe.refl _))) rfl rfl (spec_run (lsp := ld) tab_ok spFt_ok 20 (0 + 8) ((t25 20 0 ac bs ms qs a0 a1 a2 a3 a4 a5 a6).trans ?_))
  refine (need_pos ⟨_, _, _, _, _, _, _, _, _, _, _, rfl⟩).trans ?_
  unfold fitB
  cases hm : mayB ac.length a1 a2 a3 a4 with
  | false => rfl
  | true =>
    refine (need_pos ⟨_, _, _, _, _, _, _, _, _, _, _, rfl, hB, hm⟩).trans ?_
    cases shB ac bs ms qs a1.toNat a2.toNat a3 a4 <;> rfl
theorem spOf_ok : ∀ f s, spOf f = some s → s.ok Try.prog f := spAdd_ok fit25 noSp_ok
theorem sh_top {ac bs ms qs : List (List DV)} (hB : BK ac bs ms qs) {f t : Nat} (hf : f < ac.length) (a c : Int) : shB ac bs ms qs f t a c = decide (topU ac bs ms qs f t c < a) := by
  have hr := (hB.ca f hf).2.2.2.2.1
  unfold shB bilB topU
  generalize at2 bs f t = bil at *
  generalize at2 qs f t = pos at *
  generalize bcI ac f = bc at *
  generalize aci ac f 2 = res at *
  generalize at1 ms f = mul at *
  generalize sumR (rw qs f) = net at *
  rw [Bool.eq_iff_iff]
  cases (bil != -1) <;> cases (c == 3) <;> cases (mul != -1) <;> simp <;> omega
theorem may_one {n f t a c : Int} (h : mayB n f t 1 c = true) (h1 : 1 ≤ a) (h2 : a ≤ 1099511627776) : mayB n f t a c = true := by
  rw [mayB_iff] at h ⊢
  omega
theorem loop230 (L n : Nat) {ac bs ms qs : List (List DV)} (hB : BK ac bs ms qs) {f t : Nat} {c : Int} (hm : mayB ac.length ((f : Nat) : Int) ((t : Nat) : Int) 1 c = true) (h1 : 1 ≤ topU ac bs ms qs f t c) :
    LoopOk (LB tab spOf ld L (n+4) h230 c23l0) (S230 (bk ac bs ms qs) [.int .i64 0, .int .i64 ((f : Nat) : Int), .int .i64 ((t : Nat) : Int), .int .i64 1, .int .i64 c, .int .i64 0, .int .i64 0] 1 1099511627777) (.ex 0, St.of [(10, .d (.int .i64 (topT ac bs ms qs f t c)))] []) := by
  have hf : f < ac.length := by
    have := mayB_iff.1 hm
    omega
  refine loop_meas (fun s : Int × Int × Int => S230 (bk ac bs ms qs) [.int .i64 0, .int .i64 ((f : Nat) : Int), .int .i64 ((t : Nat) : Int), .int .i64 s.2.2, .int .i64 c, .int .i64 0, .int .i64 0] s.1 s.2.1) (fun s => (s.2.1 - s.1).toNat) (fun s => 1 ≤ s.1 ∧ s.2.1 ≤ 1099511627777 ∧ s.1 ≤ topT ac bs ms qs f t c ∧ topT ac bs ms qs f t c < s.2.1) (fun _ => (.ex 0, St.of [(10, .d (.int .i64 (topT ac bs ms qs f t c)))] [])) (fun s hs => ?_) (1, 1099511627777, 1) ⟨by simp, by simp, by simp only; unfold topT; omega, by simp only; unfold topT; omega⟩
  obtain ⟨lo, hi, a⟩ := s
  obtain ⟨k1, k2, k3, k4⟩ := hs
  simp only at k1 k2 k3 k4 ⊢
  have hw : IntKind.i64.wrap (hi - lo) = hi - lo := wrap_fits (by omega) (by omega)
  by_cases hd : hi - lo > 1
  · have hq : (hi - lo).tdiv 2 = (hi - lo) / 2 := Int.tdiv_eq_ediv_of_nonneg (by omega)
    have hw2 : IntKind.i64.wrap ((hi - lo) / 2) = (hi - lo) / 2 := wrap_fits (by omega) (by omega)
    have hw3 : IntKind.i64.wrap (lo + (hi - lo) / 2) = lo + (hi - lo) / 2 := wrap_fits (by omega) (by omega)
    have hmm := may_one hm (a := lo + (hi - lo) / 2) (by omega) (by omega)
    have hfit : fitB ac bs ms qs ((f : Nat) : Int) ((t : Nat) : Int) (lo + (hi - lo) / 2) c = decide (lo + (hi - lo) / 2 ≤ topT ac bs ms qs f t c) := by
      unfold fitB
      rw [hmm, Bool.true_and, Int.toNat_natCast, Int.toNat_natCast, sh_top hB hf, ← decide_not]
      refine decide_eq_decide.2 ?_
      unfold topT
      omega
    have nF : fitS.D [.agg (bk ac bs ms qs), .sl .tight 7 [[.int .i64 0, .int .i64 ((f : Nat) : Int), .int .i64 ((t : Nat) : Int), .int .i64 (lo + (hi - lo) / 2), .int .i64 c, .int .i64 0, .int .i64 0]]] := ⟨_, _, _, _, _, _, _, _, _, _, _, _, rfl, hB⟩
    left
    by_cases hc : lo + (hi - lo) / 2 ≤ topT ac bs ms qs f t c
    · refine ⟨(lo + (hi - lo) / 2, hi, lo + (hi - lo) / 2), ⟨by simp only; omega, k2, hc, k4⟩, by simp only; omega, trivial, fun k => ?_⟩
      rw [s230, hw, decide_eq_true hd, cond_true, hq, hw2, hw3, hfit, decide_eq_true hc]
      exact need_pos nF
    · refine ⟨(lo, lo + (hi - lo) / 2, lo + (hi - lo) / 2), ⟨k1, by simp only; omega, k3, by simp only; omega⟩, by simp only; omega, trivial, fun k => ?_⟩
      rw [s230, hw, decide_eq_true hd, cond_true, hq, hw2, hw3, hfit, decide_eq_false hc]
      exact need_pos nF
  · right
    refine ⟨by simp, fun k => ?_⟩
    rw [s230, hw, decide_eq_false hd, show topT ac bs ms qs f t c = lo by omega]
    rfl
theorem of23 : ofS.ok Try.prog 23 := fun ds r hD hv => by
  obtain ⟨ac, bs, ms, qs, f, t, c, rfl, hB⟩ := hD
  cases hv
  refine spec_run (lsp := ld) tab_ok spOf_ok 20 (0 + 8) ((t23 20 0 ac bs ms qs f t c).trans ?_)
  refine (need_pos ⟨_, _, _, _, _, _, _, _, _, _, _, _, rfl, hB⟩).trans ?_
  unfold ofI
  cases hfit : fitB ac bs ms qs f t 1 c with
  | false => rfl
  | true =>
    have hm := (Bool.and_eq_true_iff.1 hfit).1
    have hs := (Bool.and_eq_true_iff.1 hfit).2
    obtain ⟨f', rfl⟩ : ∃ f' : Nat, f = (f' : Int) := ⟨f.toNat, by have := mayB_iff.1 hm; omega⟩
    obtain ⟨t', rfl⟩ : ∃ t' : Nat, t = (t' : Int) := ⟨t.toNat, by have := mayB_iff.1 hm; omega⟩
    have hf : f' < ac.length := by have := mayB_iff.1 hm; omega
    rw [Int.toNat_natCast, Int.toNat_natCast, sh_top hB hf] at hs
    have h1 : 1 ≤ topU ac bs ms qs f' t' c := by simpa using hs
    rw [Int.toNat_natCast, Int.toNat_natCast]
    exact need_pos (loop230 20 (0 + 4) hB hm h1)
end Go.Proofs.Ytakapalpcglfaaa
