/- What fits: the proofs; FitsTells: the run of the statement. No condition. -/
import Derived.Test.YthjcfiekdejdgaaGp
namespace Go.Proofs.Ythjcfiekdejdgaa
open Go Go.Proofs Go.RowKit Vm
set_option linter.unusedVariables false
set_option linter.unusedSimpArgs false
def fitV (ac bs ms qs l : List (List DV)) : Bool := allV ac.length l && (outL ac.length (shP ac bs ms qs l)).isEmpty
def fitS : FSpec where
  D ds := ∃ ac bs ms qs x, ds = [.agg (bk ac bs ms qs), x] ∧ BK ac bs ms qs ∧ Sl 7 x ∧ (rowsA x).length ≤ 1000 ∧ ∀ e ∈ rowsA x, okRow z7 e = true
  val ds := match ds with | [.agg [.sla _ _ ac, .sla _ _ bs, .sla _ _ ms, .sla _ _ qs], x] => some (.bool (fitV ac bs ms qs (rowsA x))) | _ => none
def l30 : LSpec := fun st => match st.env 1, st.env 2 with
  | .d (.sla q s l), .d x => .one (.ex 0) (St.of [(1, .d (.sla q s l)), (2, .d x)] [(2, none)])
  | _, _ => .no
def lQ (k : Nat) : Option LSpec := if k = 30 then some l30 else none
noncomputable def spQ : FuncId → Option FSpec := spAdd 9 isS (spAdd 10 mayS (spAdd 11 mayS (spAdd 12 fitS (spAdd 13 fitS (spAdd 14 allS (spAdd 15 intsS (spAdd 16 shoS (spAdd 17 shoS (spAdd 18 trueS noSp)))))))))
theorem s30 (L n : Nat) (l ac bs ms qs : List (List DV)) (j : Nat) (K : Kont) : LB tab spQ lQ L (n+4) h30 c3l0 (S140 l (bk ac bs ms qs) j) K =
   (bif decide ((↑j : Int) < (↑l.length : Int)) then
 lookK l[j]? fun (e1 : List DV) =>
 bif
 okRow
 [DV.int .i64 0, DV.int .i64 0, DV.int .i64 0, DV.int .i64 0, DV.int .i64 0, DV.int .i64 0, DV.int .i64 0]
 e1 then
 need
 (mayS.D
 [DV.agg [DV.sla false 3 ac, DV.sla false 1 bs, DV.sla false 1 ms, DV.sla false 1 qs],
 DV.agg
 [DV.int .i64 (cellA e1 0).toI, DV.int .i64 (cellA e1 1).toI, DV.int .i64 (cellA e1 2).toI, DV.int .i64 (cellA e1 3).toI, DV.int .i64 (cellA e1 4).toI, DV.int .i64 (cellA e1 5).toI, DV.int .i64 (cellA e1 6).toI]])
 (lookK l[j]? fun (e5 : List DV) =>
 bif
 okRow
 [DV.int .i64 0, DV.int .i64 0, DV.int .i64 0, DV.int .i64 0, DV.int .i64 0, DV.int .i64 0, DV.int .i64 0]
 e5 then
 need
 (mayS.D
 [DV.agg [DV.sla false 3 ac, DV.sla false 1 bs, DV.sla false 1 ms, DV.sla false 1 qs],
 DV.agg
 [DV.int .i64 (cellA e5 0).toI, DV.int .i64 (cellA e5 1).toI, DV.int .i64 (cellA e5 2).toI, DV.int .i64 (cellA e5 3).toI, DV.int .i64 (cellA e5 4).toI, DV.int .i64 (cellA e5 5).toI, DV.int .i64 (cellA e5 6).toI]])
 (bif
 !mayB (↑ac.length : Int) (cellA e1 1).toI (cellA e1 2).toI (cellA e1 3).toI (cellA e1 4).toI ==
 mayB (↑ac.length : Int) (cellA e5 1).toI (cellA e5 2).toI (cellA e5 3).toI (cellA e5 4).toI then
 K Ex.ret (St.of [(4, AV.d (DV.bool false))] [(52, none), (56, none)])
 else
 K Ex.nrm
 (St.of
 [(1, AV.d (DV.sla false 7 l)),
 ((2 : Nat),
 AV.d
 (DV.rptr [DV.sla false 3 ac, DV.sla false 1 bs, DV.sla false 1 ms, DV.sla false 1 qs] (0 : Nat))),
 ((5 : Nat), AV.d (DV.int .i64 (IntKind.i64.wrap ((↑j : Int) + (1 : Int)))))]
 [(2, none)]))
 else none)
 else none
 else
 K (Ex.ex (0 : Nat))
 (St.of
 [(1, AV.d (DV.sla false 7 l)),
 ((2 : Nat), AV.d (DV.rptr [DV.sla false 3 ac, DV.sla false 1 bs, DV.sla false 1 ms, DV.sla false 1 qs] (0 : Nat)))]
 [(2, none)])) :=
  (show LB tab spQ lQ L (n+4) h30 c3l0 (S140 l (bk ac bs ms qs) j) K =
 (cond (decide ((↑j : Int) < (↑l.length : Int)))
 (lookK (l[(↑j : Int).toNat]?)
 fun e1 =>
 (cond (okRow [DV.int .i64 0, DV.int .i64 0, DV.int .i64 0, DV.int .i64 0, DV.int .i64 0, DV.int .i64 0, DV.int .i64 0] e1)
 (need (FSpec.D (mayS) [(.agg [(.sla false 3 ac), (.sla false 1 bs), (.sla false 1 ms), (.sla false 1 qs)]), (.agg [(.int .i64 ((cellA e1 0).toI)), (.int .i64 ((cellA e1 1).toI)), (.int .i64 ((cellA e1 2).toI)), (.int .i64 ((cellA e1 3).toI)), (.int .i64 ((cellA e1 4).toI)), (.int .i64 ((cellA e1 5).toI)), (.int .i64 ((cellA e1 6).toI))])])
 (lookK (l[(↑j : Int).toNat]?)
 fun e5 =>
 (cond (okRow [DV.int .i64 0, DV.int .i64 0, DV.int .i64 0, DV.int .i64 0, DV.int .i64 0, DV.int .i64 0, DV.int .i64 0] e5)
 (need (FSpec.D (mayS) [(.agg [(.sla false 3 ac), (.sla false 1 bs), (.sla false 1 ms), (.sla false 1 qs)]), (.agg [(.int .i64 ((cellA e5 0).toI)), (.int .i64 ((cellA e5 1).toI)), (.int .i64 ((cellA e5 2).toI)), (.int .i64 ((cellA e5 3).toI)), (.int .i64 ((cellA e5 4).toI)), (.int .i64 ((cellA e5 5).toI)), (.int .i64 ((cellA e5 6).toI))])])
 (cond (!mayB (↑ac.length : Int) (cellA e1 1).toI (cellA e1 2).toI (cellA e1 3).toI (cellA e1 4).toI == mayB (↑ac.length : Int) (cellA e5 1).toI (cellA e5 2).toI (cellA e5 3).toI (cellA e5 4).toI)
 (K .ret (St.of [(4, (.d (.bool false)))] [(52, .none), (56, .none)]))
 (K .nrm (St.of [(1, (.d (.sla false 7 l))), (2, (.d (.rptr [(.sla false 3 ac), (.sla false 1 bs), (.sla false 1 ms), (.sla false 1 qs)] 0))), (5, (.d (.int .i64 (IntKind.i64.wrap ((↑j : Int) + (1 : Int))))))] [(2, .none)]))))
 none)))
 none))
 (K (.ex 0) (St.of [(1, (.d (.sla false 7 l))), (2, (.d (.rptr [(.sla false 3 ac), (.sla false 1 bs), (.sla false 1 ms), (.sla false 1 qs)] 0)))] [(2, .none)]))) from by kernel_rfl).trans (by first | rfl | (simp only [decide_true, decide_false, eq_self, and_true, true_and, and_self, cond_true, cond_false, Nat.le_refl, Int.le_refl, Option.getD_some, Option.getD_none, Int.toNat_natCast, List.take_length, List.drop_zero, Nat.zero_add, List.nil_append, List.all_nil, List.append_nil, Bool.true_and, Bool.and_true, rowsA_sla, rowsA_sl, rowsA_nil, minus_zero, nat_le_cast, nat_nonneg, Option.isSome_some, Option.isSome_none, Bool.false_eq_true, false_and, and_false, if_true, if_false, implies_true, Int.toNat_zero, Bool.not_false, Bool.not_true, bne_self_eq_false]; done) | (simp only [decide_true, decide_false, eq_self, and_true, true_and, and_self, cond_true, cond_false, Nat.le_refl, Int.le_refl, Option.getD_some, Option.getD_none, Int.toNat_natCast, List.take_length, List.drop_zero, Nat.zero_add, List.nil_append, List.all_nil, List.append_nil, Bool.true_and, Bool.and_true, rowsA_sla, rowsA_sl, rowsA_nil, minus_zero, nat_le_cast, nat_nonneg, Option.isSome_some, Option.isSome_none, Bool.false_eq_true, false_and, and_false, if_true, if_false, implies_true, Int.toNat_zero, Bool.not_false, Bool.not_true, bne_self_eq_false]; rfl))
theorem t3 (n : Nat) (ac bs ms qs l : List (List DV)) : FK tab spQ lQ 20 (n+8) 3 [.agg (bk ac bs ms qs), .sla false 7 l] =
   (need (isS.D [DV.agg [DV.sla false 3 ac, DV.sla false 1 bs, DV.sla false 1 ms, DV.sla false 1 qs]])
 (bif bif !isBk ac bs ms qs then true else decide ((↑l.length : Int) > (70 : Int)) then some (DV.bool true)
 else
 need
 (LoopOk (LB tab spQ lQ (20 : Nat) (n + (8 : Nat)) h30 c3l0)
 (St.of
 [(1, AV.d (DV.sla false 7 l)),
 ((2 : Nat),
 AV.d (DV.rptr [DV.sla false 3 ac, DV.sla false 1 bs, DV.sla false 1 ms, DV.sla false 1 qs] (0 : Nat))),
 ((5 : Nat), AV.d (DV.int .i64 0))]
 [(2, none)])
 (Ex.ex (0 : Nat),
 St.of
 [(1, AV.d (DV.sla false 7 l)),
 ((2 : Nat),
 AV.d (DV.rptr [DV.sla false 3 ac, DV.sla false 1 bs, DV.sla false 1 ms, DV.sla false 1 qs] (0 : Nat)))]
 [(2, none)]))
 (need
 (fitS.D
 [DV.agg [DV.sla false 3 ac, DV.sla false 1 bs, DV.sla false 1 ms, DV.sla false 1 qs], DV.sla false 7 l])
 (need
 (fitS.D
 [DV.agg [DV.sla false 3 ac, DV.sla false 1 bs, DV.sla false 1 ms, DV.sla false 1 qs],
 DV.sla false 7 l])
 (bif fitV ac bs ms qs l == fitV ac bs ms qs l then
 need
 (allS.D
 [DV.agg [DV.sla false 3 ac, DV.sla false 1 bs, DV.sla false 1 ms, DV.sla false 1 qs],
 DV.sla false 7 l])
 (bif !allV ac.length l then need (trueS.D []) (some (DV.bool true))
 else
 need
 (shoS.D
 [DV.agg [DV.sla false 3 ac, DV.sla false 1 bs, DV.sla false 1 ms, DV.sla false 1 qs],
 DV.sla false 7 l])
 (need
 (shoS.D
 [DV.agg [DV.sla false 3 ac, DV.sla false 1 bs, DV.sla false 1 ms, DV.sla false 1 qs],
 DV.sla false 7 l])
 (need
 (intsS.D
 [DV.sla false 1 (outL ac.length (shP ac bs ms qs l)), DV.sla false 1 (outL ac.length (shP ac bs ms qs l))])
 (need (trueS.D []) (some (DV.bool true))))))
 else some (DV.bool false)))))) :=
  (show FK tab spQ lQ 20 (n+8) 3 [.agg (bk ac bs ms qs), .sla false 7 l] =
 (need (FSpec.D (isS) [(.agg [(.sla false 3 ac), (.sla false 1 bs), (.sla false 1 ms), (.sla false 1 qs)])])
 (cond (bif !isBk ac bs ms qs then true else decide ((↑l.length : Int) > (70 : Int)))
 (some (.bool true))
 (need (LoopOk (LB tab spQ lQ ((20 : Nat)) (n + (8 : Nat)) h30 c3l0) (St.of [(1, (.d (.sla false 7 l))), (2, (.d (.rptr [(.sla false 3 ac), (.sla false 1 bs), (.sla false 1 ms), (.sla false 1 qs)] 0))), (5, (.d (.int .i64 ((0 : Int)))))] [(2, .none)]) ((.ex 0), (St.of [(1, (.d (.sla false 7 l))), (2, (.d (.rptr [(.sla false 3 ac), (.sla false 1 bs), (.sla false 1 ms), (.sla false 1 qs)] 0)))] [(2, .none)])))
 (need (FSpec.D (fitS) [(.agg [(.sla false 3 ac), (.sla false 1 bs), (.sla false 1 ms), (.sla false 1 qs)]), (.sla false 7 l)])
 (need (FSpec.D (fitS) [(.agg [(.sla false 3 ac), (.sla false 1 bs), (.sla false 1 ms), (.sla false 1 qs)]), (.sla false 7 l)])
 (cond (fitV ac bs ms qs (rowsA (DV.sla false 7 l)) == fitV ac bs ms qs (rowsA (DV.sla false 7 l)))
 (need (FSpec.D (allS) [(.agg [(.sla false 3 ac), (.sla false 1 bs), (.sla false 1 ms), (.sla false 1 qs)]), (.sla false 7 l)])
 (cond (!allV ac.length (rowsA (DV.sla false 7 l)))
 (need (FSpec.D (trueS) [])
 (some (.bool true)))
 (need (FSpec.D (shoS) [(.agg [(.sla false 3 ac), (.sla false 1 bs), (.sla false 1 ms), (.sla false 1 qs)]), (.sla false 7 l)])
 (need (FSpec.D (shoS) [(.agg [(.sla false 3 ac), (.sla false 1 bs), (.sla false 1 ms), (.sla false 1 qs)]), (.sla false 7 l)])
 (need (FSpec.D (intsS) [(.sla false 1 (outL ac.length (shP ac bs ms qs (rowsA (DV.sla false 7 l))))), (.sla false 1 (outL ac.length (shP ac bs ms qs (rowsA (DV.sla false 7 l)))))])
 (need (FSpec.D (trueS) [])
 (some (.bool true))))))))
 (some (.bool false)))))))) from by kernel_rfl).trans (by first | rfl | (simp only [decide_true, decide_false, eq_self, and_true, true_and, and_self, cond_true, cond_false, Nat.le_refl, Int.le_refl, Option.getD_some, Option.getD_none, Int.toNat_natCast, List.take_length, List.drop_zero, Nat.zero_add, List.nil_append, List.all_nil, List.append_nil, Bool.true_and, Bool.and_true, rowsA_sla, rowsA_sl, rowsA_nil, minus_zero, nat_le_cast, nat_nonneg, Option.isSome_some, Option.isSome_none, Bool.false_eq_true, false_and, and_false, if_true, if_false, implies_true, Int.toNat_zero, Bool.not_false, Bool.not_true, bne_self_eq_false]; done) | (simp only [decide_true, decide_false, eq_self, and_true, true_and, and_self, cond_true, cond_false, Nat.le_refl, Int.le_refl, Option.getD_some, Option.getD_none, Int.toNat_natCast, List.take_length, List.drop_zero, Nat.zero_add, List.nil_append, List.all_nil, List.append_nil, Bool.true_and, Bool.and_true, rowsA_sla, rowsA_sl, rowsA_nil, minus_zero, nat_le_cast, nat_nonneg, Option.isSome_some, Option.isSome_none, Bool.false_eq_true, false_and, and_false, if_true, if_false, implies_true, Int.toNat_zero, Bool.not_false, Bool.not_true, bne_self_eq_false]; rfl))
theorem any_may (n : Nat) (l : List (List DV)) (ac bs ms qs : List (List DV)) (h : ac.length = n) : l.any (clB (k27 (bk ac bs ms qs))) = !l.all (mayE n) := by
  subst h
  induction l with
  | nil => rfl
  | cons e l ih =>
    rw [List.any_cons, List.all_cons, ih]
    show (!mayE ac.length e || _) = _
    cases mayE ac.length e <;> rfl
theorem po_all {n : Nat} {l : List (List DV)} (hz : ∀ e ∈ l, okRow z7 e = true) (h : l.all (mayE n) = true) : ∀ e ∈ l, PO n e := fun e he => po_of (hz e he) (List.all_eq_true.1 h e he)
theorem len_zero (O : List (List DV)) : (((O.length : Nat) : Int) == (0 : Int)) = O.isEmpty := by
  cases O with
  | nil => rfl
  | cons a t =>
    refine beq_eq_false_iff_ne.2 ?_
    rw [List.length_cons]
    omega
theorem fit12 : fitS.ok Try.prog 12 := fun ds r hD hv => by
  obtain ⟨ac, bs, ms, qs, x, rfl, hB, hx, hl, hz⟩ := hD
  cases hv
  refine Sl.gen2' rfl hx ?_
  generalize rowsA x = l at *
  refine spec_run (lsp := lsp0) tab_ok spP_ok 20 (0 + 8) ((t12 0 ac bs ms qs l).trans ?_)
  unfold fitV allV
  rw [show decide (((l.length : Nat) : Int) ≤ (64 : Int)) = decide (l.length ≤ 64) from decide_eq_decide.2 (by omega)]
  cases decide (l.length ≤ 64) with
  | false =>
    rw [Bool.and_false]
    rfl
  | true =>
    refine (need_pos ⟨_, _, _, rfl, Sl.sla 7 false l, by show l.length ≤ 1000000; omega, hz, ClD.b ac bs ms qs⟩).trans ?_
    show cond (!l.any (clB (k27 (bk ac bs ms qs)))) _ _ = _
    rw [any_may ac.length l ac bs ms qs rfl, Bool.not_not, Bool.and_true]
    cases ha : l.all (mayE ac.length) with
    | false => rfl
    | true =>
      refine (need_pos ⟨ac, bs, ms, qs, .sla false 7 l, rfl, hB, Sl.sla 7 false l, hl, po_all hz ha⟩).trans ?_
      rw [len_zero]
      rfl
theorem fit13 : fitS.ok Try.prog 13 := fun ds r hD hv => by
  obtain ⟨ac, bs, ms, qs, x, rfl, hB, hx, hl, hz⟩ := hD
  cases hv
  refine Sl.gen2' rfl hx ?_
  generalize rowsA x = l at *
  refine spec_run (lsp := lsp0) tab_ok spP_ok 20 (0 + 8) ((t13 0 ac bs ms qs l).trans ?_)
  refine (need_pos ⟨ac, bs, ms, qs, .sla false 7 l, rfl, Sl.sla 7 false l, hl, hz⟩).trans ?_
  unfold fitV
  cases ha : allV ac.length l with
  | false => rfl
  | true =>
    refine (need_pos ⟨ac, bs, ms, qs, .sla false 7 l, rfl, hB, Sl.sla 7 false l, hl, po_all hz (Bool.and_eq_true_iff.1 ha).1⟩).trans ?_
    rw [len_zero]
    rfl
theorem spQ_ok : ∀ f s, spQ f = some s → s.ok Try.prog f := spAdd_ok is9 (spAdd_ok may10 (spAdd_ok may11 (spAdd_ok fit12 (spAdd_ok fit13 (spAdd_ok all14 (spAdd_ok ints15 (spAdd_ok sho16 (spAdd_ok rsho17 (spAdd_ok known18 noSp_ok)))))))))
end Go.Proofs.Ythjcfiekdejdgaa
