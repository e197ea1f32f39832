/- What is known of books, by the runs. No condition. -/
import Derived.Test.YthjcfiekdejdgaaGa
namespace Go.Proofs.Ythjcfiekdejdgaa
open Go Go.Proofs Go.RowKit Vm
set_option linter.unusedVariables false
set_option linter.unusedSimpArgs false
def sumR : List (List DV) → Int
  | [] => 0
  | e :: l => cel e + sumR l
def l380 : LSpec := fun st => match st.env 12 with
  | .d (.sla _ _ es) => .one (.ex 0) (St.of [(5, .d (.int .i64 (sumR es)))] [])
  | _ => .no
def l430 : LSpec := fun st => match st.env 1, st.env 2 with
  | .d (.int _ i), .d (.rptr [.sla _ _ ac, .sla _ _ bs, .sla _ _ ms, .sla _ _ qs] _) => .one (.ex 0) (St.of [(5, .d (.int .i64 (sumR (rw qs i.toNat))))] [])
  | _, _ => .no
def lb (k : Nat) : Option LSpec := if k = 380 then some l380 else if k = 430 then some l430 else none
def S380 (k : Bool) (sz : Nat) (es : List (List DV)) (m i s : Int) : St := St.of [(5, .d (.int .i64 s)), (12, .d (.sla k sz es)), (13, .d (.int .i64 m)), (14, .d (.int .i64 i))] []
def S430 (b : List DV) (i : Int) (s j : Int) : St := St.of [(1, .d (.int .i64 i)), (2, .d (.rptr b 0)), (5, .d (.int .i64 s)), (6, .d (.int .i64 j))] [(2, none)]
def netS : FSpec where
  D ds := ∃ ac bs ms qs i, ds = [.agg (bk ac bs ms qs), .int .i64 ((i : Nat) : Int)] ∧ TY ac bs ms qs ∧ i < qs.length ∧ (rw qs i).length ≤ 6 ∧ ∀ r ∈ rw qs i, -72057594037927936 < cel r ∧ cel r < 72057594037927936
  val ds := match ds with | [.agg [.sla _ _ ac, .sla _ _ bs, .sla _ _ ms, .sla _ _ qs], .int _ i] => some (.int .i64 (sumR (rw qs i.toNat))) | _ => none
theorem s380 (L n : Nat) (kk : Bool) (sz : Nat) (es : List (List DV)) (m i : Nat) (s : Int) (k : Kont) : LB tab noSp lb L (n+4) h380 c38l0 (S380 kk sz es m i s) k =
   (bif decide ((↑i : Int) < (↑m : Int)) then
 bif decide ((1 : Nat) = sz) then
 lookK es[i]? fun (e2 : List DV) =>
 bif okRow [DV.int .i64 0] e2 then
 k Ex.nrm
 (St.of
 [(5, AV.d (DV.int .i64 (IntKind.i64.wrap (s + (cellA e2 0).toI)))), (12, AV.d (DV.sla kk sz es)),
 ((13 : Nat), AV.d (DV.int .i64 (↑m : Int))), (14, AV.d (DV.int .i64 (IntKind.i64.wrap ((↑i : Int) + (1 : Int)))))]
 [])
 else none
 else none
 else k (Ex.ex (0 : Nat)) (St.of [(5, AV.d (DV.int .i64 s))] [])) :=
  (show LB tab noSp lb L (n+4) h380 c38l0 (S380 kk sz es m i s) k =
 (cond (decide ((↑i : Int) < (↑m : Int)))
 (cond (decide ((1 : Nat) = sz))
 (lookK (es[(↑i : Int).toNat]?)
 fun e2 =>
 (cond (okRow [DV.int .i64 0] e2)
 (k .nrm (St.of [(5, (.d (.int .i64 (IntKind.i64.wrap (s + (cellA e2 0).toI))))), (12, (.d (.sla kk sz es))), (13, (.d (.int .i64 ((↑m : Int))))), (14, (.d (.int .i64 (IntKind.i64.wrap ((↑i : Int) + (1 : Int))))))] []))
 none))
 none)
 (k (.ex 0) (St.of [(5, (.d (.int .i64 s)))] []))) from by kernel_rfl).trans (by first | rfl | (simp only [decide_true, decide_false, eq_self, and_true, true_and, and_self, cond_true, cond_false, Nat.le_refl, Int.le_refl, Option.getD_some, Option.getD_none, Int.toNat_natCast, List.take_length, List.drop_zero, Nat.zero_add, List.nil_append, List.all_nil, List.append_nil, Bool.true_and, Bool.and_true, rowsA_sla, rowsA_sl, rowsA_nil, minus_zero, nat_le_cast, nat_nonneg, Option.isSome_some, Option.isSome_none, Bool.false_eq_true, false_and, and_false, if_true, if_false, implies_true, Int.toNat_zero, Bool.not_false, Bool.not_true, bne_self_eq_false]; done) | (simp only [decide_true, decide_false, eq_self, and_true, true_and, and_self, cond_true, cond_false, Nat.le_refl, Int.le_refl, Option.getD_some, Option.getD_none, Int.toNat_natCast, List.take_length, List.drop_zero, Nat.zero_add, List.nil_append, List.all_nil, List.append_nil, Bool.true_and, Bool.and_true, rowsA_sla, rowsA_sl, rowsA_nil, minus_zero, nat_le_cast, nat_nonneg, Option.isSome_some, Option.isSome_none, Bool.false_eq_true, false_and, and_false, if_true, if_false, implies_true, Int.toNat_zero, Bool.not_false, Bool.not_true, bne_self_eq_false]; rfl))
theorem s430 (L n : Nat) (ac bs ms qs : List (List DV)) (i j : Nat) (s : Int) (k : Kont) : LB tab noSp lb L (n+4) h430 c43l0 (S430 (bk ac bs ms qs) i s j) k =
   (lookK qs[i]? fun (e0 : List DV) =>
 bif okRow [DV.nilsl] e0 then
 bif decide ((↑j : Int) < (↑(cellA e0 0).slR.length : Int)) then
 lookK qs[i]? fun (e4 : List DV) =>
 bif okRow [DV.nilsl] e4 then
 bif decide ((1 : Nat) = (cellA e4 0).slZ) then
 lookK (cellA e4 0).slR[j]? fun (e8 : List DV) =>
 bif okRow [DV.int .i64 0] e8 then
 k Ex.nrm
 (St.of
 [(1, AV.d (DV.int .i64 (↑i : Int))),
 ((2 : Nat),
 AV.d
 (DV.rptr [DV.sla false 3 ac, DV.sla false 1 bs, DV.sla false 1 ms, DV.sla false 1 qs] (0 : Nat))),
 ((5 : Nat), AV.d (DV.int .i64 (IntKind.i64.wrap (s + (cellA e8 0).toI)))),
 ((6 : Nat), AV.d (DV.int .i64 (IntKind.i64.wrap ((↑j : Int) + (1 : Int)))))]
 [(2, none)])
 else none
 else none
 else none
 else k (Ex.ex (0 : Nat)) (St.of [(5, AV.d (DV.int .i64 s))] [])
 else none) :=
  (show LB tab noSp lb L (n+4) h430 c43l0 (S430 (bk ac bs ms qs) i s j) k =
 (lookK (qs[(↑i : Int).toNat]?)
 fun e0 =>
 (cond (okRow [DV.nilsl] e0)
 (cond (decide ((↑j : Int) < (↑(cellA e0 0).slR.length : Int)))
 (lookK (qs[(↑i : Int).toNat]?)
 fun e4 =>
 (cond (okRow [DV.nilsl] e4)
 (cond (decide ((1 : Nat) = (cellA e4 0).slZ))
 (lookK ((cellA e4 0).slR[(↑j : Int).toNat]?)
 fun e8 =>
 (cond (okRow [DV.int .i64 0] e8)
 (k .nrm (St.of [(1, (.d (.int .i64 ((↑i : Int))))), (2, (.d (.rptr [(.sla false 3 ac), (.sla false 1 bs), (.sla false 1 ms), (.sla false 1 qs)] 0))), (5, (.d (.int .i64 (IntKind.i64.wrap (s + (cellA e8 0).toI))))), (6, (.d (.int .i64 (IntKind.i64.wrap ((↑j : Int) + (1 : Int))))))] [(2, .none)]))
 none))
 none)
 none))
 (k (.ex 0) (St.of [(5, (.d (.int .i64 s)))] [])))
 none)) from by kernel_rfl).trans (by first | rfl | (simp only [decide_true, decide_false, eq_self, and_true, true_and, and_self, cond_true, cond_false, Nat.le_refl, Int.le_refl, Option.getD_some, Option.getD_none, Int.toNat_natCast, List.take_length, List.drop_zero, Nat.zero_add, List.nil_append, List.all_nil, List.append_nil, Bool.true_and, Bool.and_true, rowsA_sla, rowsA_sl, rowsA_nil, minus_zero, nat_le_cast, nat_nonneg, Option.isSome_some, Option.isSome_none, Bool.false_eq_true, false_and, and_false, if_true, if_false, implies_true, Int.toNat_zero, Bool.not_false, Bool.not_true, bne_self_eq_false]; done) | (simp only [decide_true, decide_false, eq_self, and_true, true_and, and_self, cond_true, cond_false, Nat.le_refl, Int.le_refl, Option.getD_some, Option.getD_none, Int.toNat_natCast, List.take_length, List.drop_zero, Nat.zero_add, List.nil_append, List.all_nil, List.append_nil, Bool.true_and, Bool.and_true, rowsA_sla, rowsA_sl, rowsA_nil, minus_zero, nat_le_cast, nat_nonneg, Option.isSome_some, Option.isSome_none, Bool.false_eq_true, false_and, and_false, if_true, if_false, implies_true, Int.toNat_zero, Bool.not_false, Bool.not_true, bne_self_eq_false]; rfl))
theorem t38 (L n : Nat) (ac bs ms qs : List (List DV)) (i : Nat) : FK tab noSp lb L (n+8) 38 [.agg (bk ac bs ms qs), .int .i64 ((i : Nat) : Int)] =
   (lookK qs[i]? fun (e0 : List DV) =>
 bif okRow [DV.nilsl] e0 then
 need
 (LoopOk (LB tab noSp lb L (n + (8 : Nat)) h380 c38l0)
 (St.of
 [(5, AV.d (DV.int .i64 0)),
 ((12 : Nat), AV.d (DV.sla (cellA e0 0).slT (cellA e0 0).slZ (cellA e0 0).slR)),
 ((13 : Nat), AV.d (DV.int .i64 (↑(cellA e0 0).slR.length : Int))), (14, AV.d (DV.int .i64 0))]
 [])
 (Ex.ex (0 : Nat), St.of [(5, AV.d (DV.int .i64 (sumR (cellA e0 0).slR)))] []))
 (some (DV.int .i64 (sumR (cellA e0 0).slR)))
 else none) :=
  (show FK tab noSp lb L (n+8) 38 [.agg (bk ac bs ms qs), .int .i64 ((i : Nat) : Int)] =
 (lookK (qs[(↑i : Int).toNat]?)
 fun e0 =>
 (cond (okRow [DV.nilsl] e0)
 (need (LoopOk (LB tab noSp lb L (n + (8 : Nat)) h380 c38l0) (St.of [(5, (.d (.int .i64 ((0 : Int))))), (12, (.d (.sla ((cellA e0 0).slT) ((cellA e0 0).slZ) ((cellA e0 0).slR)))), (13, (.d (.int .i64 ((↑(cellA e0 0).slR.length : Int))))), (14, (.d (.int .i64 ((0 : Int)))))] []) ((.ex 0), (St.of [(5, (.d (.int .i64 (sumR (cellA e0 0).slR))))] [])))
 (some (.int .i64 (sumR (cellA e0 0).slR))))
 none)) from by kernel_rfl).trans (by first | rfl | (simp only [decide_true, decide_false, eq_self, and_true, true_and, and_self, cond_true, cond_false, Nat.le_refl, Int.le_refl, Option.getD_some, Option.getD_none, Int.toNat_natCast, List.take_length, List.drop_zero, Nat.zero_add, List.nil_append, List.all_nil, List.append_nil, Bool.true_and, Bool.and_true, rowsA_sla, rowsA_sl, rowsA_nil, minus_zero, nat_le_cast, nat_nonneg, Option.isSome_some, Option.isSome_none, Bool.false_eq_true, false_and, and_false, if_true, if_false, implies_true, Int.toNat_zero, Bool.not_false, Bool.not_true, bne_self_eq_false]; done) | (simp only [decide_true, decide_false, eq_self, and_true, true_and, and_self, cond_true, cond_false, Nat.le_refl, Int.le_refl, Option.getD_some, Option.getD_none, Int.toNat_natCast, List.take_length, List.drop_zero, Nat.zero_add, List.nil_append, List.all_nil, List.append_nil, Bool.true_and, Bool.and_true, rowsA_sla, rowsA_sl, rowsA_nil, minus_zero, nat_le_cast, nat_nonneg, Option.isSome_some, Option.isSome_none, Bool.false_eq_true, false_and, and_false, if_true, if_false, implies_true, Int.toNat_zero, Bool.not_false, Bool.not_true, bne_self_eq_false]; rfl))
theorem t43 (L n : Nat) (ac bs ms qs : List (List DV)) (i : Nat) : FK tab noSp lb L (n+8) 43 [.agg (bk ac bs ms qs), .int .i64 ((i : Nat) : Int)] =
   (need
 (LoopOk (LB tab noSp lb L (n + (8 : Nat)) h430 c43l0)
 (St.of
 [(1, AV.d (DV.int .i64 (↑i : Int))),
 ((2 : Nat), AV.d (DV.rptr [DV.sla false 3 ac, DV.sla false 1 bs, DV.sla false 1 ms, DV.sla false 1 qs] (0 : Nat))),
 ((5 : Nat), AV.d (DV.int .i64 0)), (6, AV.d (DV.int .i64 0))]
 [(2, none)])
 (Ex.ex (0 : Nat), St.of [(5, AV.d (DV.int .i64 (sumR (rw qs i))))] []))
 (some (DV.int .i64 (sumR (rw qs i))))) :=
  (show FK tab noSp lb L (n+8) 43 [.agg (bk ac bs ms qs), .int .i64 ((i : Nat) : Int)] =
 (need (LoopOk (LB tab noSp lb L (n + (8 : Nat)) h430 c43l0) (St.of [(1, (.d (.int .i64 ((↑i : Int))))), (2, (.d (.rptr [(.sla false 3 ac), (.sla false 1 bs), (.sla false 1 ms), (.sla false 1 qs)] 0))), (5, (.d (.int .i64 ((0 : Int))))), (6, (.d (.int .i64 ((0 : Int)))))] [(2, .none)]) ((.ex 0), (St.of [(5, (.d (.int .i64 (sumR (rw qs (↑i : Int).toNat)))))] [])))
 (some (.int .i64 (sumR (rw qs (↑i : Int).toNat))))) from by kernel_rfl).trans (by first | rfl | (simp only [decide_true, decide_false, eq_self, and_true, true_and, and_self, cond_true, cond_false, Nat.le_refl, Int.le_refl, Option.getD_some, Option.getD_none, Int.toNat_natCast, List.take_length, List.drop_zero, Nat.zero_add, List.nil_append, List.all_nil, List.append_nil, Bool.true_and, Bool.and_true, rowsA_sla, rowsA_sl, rowsA_nil, minus_zero, nat_le_cast, nat_nonneg, Option.isSome_some, Option.isSome_none, Bool.false_eq_true, false_and, and_false, if_true, if_false, implies_true, Int.toNat_zero, Bool.not_false, Bool.not_true, bne_self_eq_false]; done) | (simp only [decide_true, decide_false, eq_self, and_true, true_and, and_self, cond_true, cond_false, Nat.le_refl, Int.le_refl, Option.getD_some, Option.getD_none, Int.toNat_natCast, List.take_length, List.drop_zero, Nat.zero_add, List.nil_append, List.all_nil, List.append_nil, Bool.true_and, Bool.and_true, rowsA_sla, rowsA_sl, rowsA_nil, minus_zero, nat_le_cast, nat_nonneg, Option.isSome_some, Option.isSome_none, Bool.false_eq_true, false_and, and_false, if_true, if_false, implies_true, Int.toNat_zero, Bool.not_false, Bool.not_true, bne_self_eq_false]; rfl))
theorem is9 : isS.ok Try.prog 9 := fun ds r hD hv => by
  obtain ⟨ac, bs, ms, qs, rfl, hT⟩ := hD
  cases hv
  refine spec_run (lsp := la) tab_ok spSq_ok 20 (0 + 8) ((t9 20 0 ac bs ms qs).trans ?_)
  unfold isBk
  refine cond_of (fun h => ?_) (fun h => ?_)
  · have : ¬ (1 ≤ ac.length ∧ ac.length ≤ 6) := by
      simp at h
      omega
    rw [decide_eq_false this]
    rfl
  · have h16 : 1 ≤ ac.length ∧ ac.length ≤ 6 := by
      simp at h
      omega
    rw [decide_eq_true h16, Bool.true_and]
    refine (need_pos ⟨bs, ac.length, rfl, fun e he => (hT.b e he).1, h16.2⟩).trans ?_
    cases hb : sqB bs ac.length with
    | false => rfl
    | true =>
      rw [Bool.true_and]
      refine (need_pos ⟨qs, ac.length, rfl, fun e he => (hT.q e he).1, h16.2⟩).trans ?_
      cases hq : sqB qs ac.length with
      | false => rfl
      | true =>
        rw [Bool.true_and]
        by_cases hm : ms.length = ac.length
        · rw [decide_eq_true hm, Bool.true_and, show (((ms.length : Nat) : Int) != ((ac.length : Nat) : Int)) = false by rw [hm]; exact bne_self_eq_false _]
          have hL := loop90 20 (0 + 4) hT h16.2 rfl hm hb hq
          cases ha : allF (iOk ac bs ms qs ac.length) ac.length 0 with
          | true =>
            rw [ha] at hL
            exact need_pos hL
          | false =>
            rw [ha] at hL
            exact need_pos hL
        · rw [decide_eq_false hm, show (((ms.length : Nat) : Int) != ((ac.length : Nat) : Int)) = true from bne_iff_ne.2 (by omega)]
          rfl
/-- books that are books -/
structure BK (ac bs ms qs : List (List DV)) : Prop where
  t : TY ac bs ms qs
  n1 : 1 ≤ ac.length
  n6 : ac.length ≤ 6
  lb : bs.length = ac.length
  lm : ms.length = ac.length
  lq : qs.length = ac.length
  rb : ∀ i, i < ac.length → (rw bs i).length = ac.length
  rq : ∀ i, i < ac.length → (rw qs i).length = ac.length
  ca : ∀ i, i < ac.length → isA (aci ac i 0) (aci ac i 1) (aci ac i 2)
  cm : ∀ i, i < ac.length → -1 ≤ at1 ms i ∧ at1 ms i ≤ 2305843009213693952
  cb : ∀ i j, i < ac.length → j < ac.length → -1 ≤ at2 bs i j ∧ at2 bs i j ≤ 2305843009213693952
  cq : ∀ i j, i < ac.length → j < ac.length → -72057594037927936 < at2 qs i j ∧ at2 qs i j < 72057594037927936
theorem limB_iff {x : Int} (h : limB x = true) : -1 ≤ x ∧ x ≤ 2305843009213693952 := by
  unfold limB at h
  simp at h
  omega
theorem BK.of {ac bs ms qs : List (List DV)} (hT : TY ac bs ms qs) (h : isBk ac bs ms qs = true) : BK ac bs ms qs := by
  unfold isBk at h
  obtain ⟨h1, h⟩ := Bool.and_eq_true_iff.1 h
  obtain ⟨h2, h⟩ := Bool.and_eq_true_iff.1 h
  obtain ⟨h3, h⟩ := Bool.and_eq_true_iff.1 h
  obtain ⟨h4, h5⟩ := Bool.and_eq_true_iff.1 h
  have h1 := of_decide_eq_true h1
  have h4 := of_decide_eq_true h4
  obtain ⟨b1, b2⟩ := Bool.and_eq_true_iff.1 h2
  obtain ⟨q1, q2⟩ := Bool.and_eq_true_iff.1 h3
  have b1 := of_decide_eq_true b1
  have q1 := of_decide_eq_true q1
  have row : ∀ i, i < ac.length → isA (aci ac i 0) (aci ac i 1) (aci ac i 2) ∧ limB (at1 ms i) = true ∧ ∀ j, j < ac.length → limB (at2 bs i j) = true ∧ posB qs i j = true := fun i hi => by
    have := allF_at h5 i (by omega) (by omega)
    unfold iOk at this
    obtain ⟨k1, this⟩ := Bool.and_eq_true_iff.1 this
    obtain ⟨k2, k3⟩ := Bool.and_eq_true_iff.1 this
    refine ⟨isB_iff.1 k1, k2, fun j hj => ?_⟩
    have := allF_at k3 j (by omega) (by omega)
    unfold kOk at this
    exact Bool.and_eq_true_iff.1 this
  refine ⟨hT, h1.1, h1.2, b1, h4, q1, fun i hi => ?_, fun i hi => ?_, fun i hi => (row i hi).1, fun i hi => limB_iff (row i hi).2.1, fun i j hi hj => limB_iff ((row i hi).2.2 j hj).1, fun i j hi hj => ?_⟩
  · have := allF_at b2 i (by omega) (by omega)
    unfold lenB at this
    have := bne_eq_false_iff_eq.1 (Bool.not_eq_true' _ ▸ this)
    omega
  · have := allF_at q2 i (by omega) (by omega)
    unfold lenB at this
    have := bne_eq_false_iff_eq.1 (Bool.not_eq_true' _ ▸ this)
    omega
  · have := ((row i hi).2.2 j hj).2
    unfold posB at this
    simp at this
    omega
theorem sumR_take {es : List (List DV)} : ∀ {i : Nat} (hi : i < es.length), sumR (es.take (i + 1)) = sumR (es.take i) + cel es[i] := fun {i} hi => by
  have app : ∀ a b : List (List DV), sumR (a ++ b) = sumR a + sumR b := fun a b => by
    induction a with
    | nil => simp [sumR]
    | cons x a ih =>
      simp only [List.cons_append, sumR, ih]
      omega
  rw [List.take_succ_eq_append_getElem hi, app]
  simp [sumR]
theorem sumR_bound : ∀ {es : List (List DV)}, (∀ r ∈ es, -72057594037927936 < cel r ∧ cel r < 72057594037927936) → -72057594037927936 * (es.length : Int) ≤ sumR es ∧ sumR es ≤ 72057594037927936 * (es.length : Int)
  | [], _ => by simp [sumR]
  | e :: l, h => by
    have h1 := h e (by simp)
    have h2 := sumR_bound fun r hr => h r (List.mem_cons.2 (.inr hr))
    simp only [sumR, List.length_cons]
    omega
theorem loop380 (L n : Nat) (kk : Bool) {es : List (List DV)} (hz : ∀ r ∈ es, okRow z1 r = true) (h6 : es.length ≤ 6) (hb : ∀ r ∈ es, -72057594037927936 < cel r ∧ cel r < 72057594037927936) :
    LoopOk (LB tab noSp lb L (n+4) h380 c38l0) (S380 kk 1 es es.length 0 0) (.ex 0, St.of [(5, .d (.int .i64 (sumR es)))] []) := by
  refine loop_meas (fun i : Nat => S380 kk 1 es (es.length : Nat) (i : Nat) (sumR (es.take i))) (fun i => es.length - i) (fun i => i ≤ es.length) (fun _ => (.ex 0, St.of [(5, .d (.int .i64 (sumR es)))] [])) (fun i hs => ?_) 0 (Nat.zero_le _)
  by_cases hi : i < es.length
  · left
    refine ⟨i + 1, hi, by omega, rfl, fun k => ?_⟩
    have hbt := sumR_bound (es := es.take (i + 1)) fun r hr => hb r (List.mem_of_mem_take hr)
    have hlt : (es.take (i + 1)).length ≤ 6 := by rw [List.length_take]; omega
    rw [sumR_take hi] at hbt ⊢
    rw [s380, lt_dec hi, cond_true, decide_eq_true rfl, cond_true, look_nat hi, hz _ (List.getElem_mem hi), cond_true, wrap_succ (by omega)]
    rw [show (cellA es[i] 0).toI = cel es[i] from rfl, wrap_fits (n := sumR (es.take i) + cel es[i]) (by omega) (by omega)]
    rfl
  · right
    have : i = es.length := by omega
    subst this
    refine ⟨by simp, fun k => ?_⟩
    rw [s380, lt_dec_self, List.take_length]
    rfl
theorem net38 : netS.ok Try.prog 38 := fun ds r hD hv => by
  obtain ⟨ac, bs, ms, qs, i, rfl, hT, hi, h6, hb⟩ := hD
  cases hv
  rw [Int.toNat_natCast]
  obtain ⟨k1, k2, k3⟩ := hT.q _ (List.getElem_mem hi)
  rw [rw_at hi] at h6 hb ⊢
  refine spec_run (lsp := lb) tab_ok noSp_ok 20 (0 + 8) ((t38 20 0 ac bs ms qs i).trans ?_)
  rw [look_nat hi, k1, cond_true, k2]
  exact need_pos (loop380 20 (0 + 4) _ (fun r hr => (k3 r hr).1) h6 hb)
theorem loop430 (L n : Nat) {ac bs ms qs : List (List DV)} (hT : TY ac bs ms qs) {i : Nat} (hi : i < qs.length) (h6 : (rw qs i).length ≤ 6) (hb : ∀ r ∈ rw qs i, -72057594037927936 < cel r ∧ cel r < 72057594037927936) :
    LoopOk (LB tab noSp lb L (n+4) h430 c43l0) (S430 (bk ac bs ms qs) (i : Nat) 0 0) (.ex 0, St.of [(5, .d (.int .i64 (sumR (rw qs i))))] []) := by
  obtain ⟨k1, k2, k3⟩ := hT.q _ (List.getElem_mem hi)
  have e := rw_at hi
  rw [e] at h6 hb ⊢
  generalize hes : (cellA qs[i] 0).slR = es at *
  refine loop_meas (fun j : Nat => S430 (bk ac bs ms qs) (i : Nat) (sumR (es.take j)) (j : Nat)) (fun j => es.length - j) (fun j => j ≤ es.length) (fun _ => (.ex 0, St.of [(5, .d (.int .i64 (sumR es)))] [])) (fun j hs => ?_) 0 (Nat.zero_le _)
  by_cases hj : j < es.length
  · left
    refine ⟨j + 1, hj, by omega, rfl, fun k => ?_⟩
    have hbt := sumR_bound (es := es.take (j + 1)) fun r hr => hb r (List.mem_of_mem_take hr)
    have hlt : (es.take (j + 1)).length ≤ 6 := by rw [List.length_take]; omega
    rw [sumR_take hj] at hbt ⊢
    rw [s430]
    simp only [look_nat hi, k1, k2, hes, cond_true, lt_dec hj, decide_true, look_nat hj, (k3 _ (List.getElem_mem hj)).1]
    rw [wrap_succ (by omega), show (cellA es[j] 0).toI = cel es[j] from rfl, wrap_fits (n := sumR (es.take j) + cel es[j]) (by omega) (by omega)]
    rfl
  · right
    have : j = es.length := by omega
    subst this
    refine ⟨by simp, fun k => ?_⟩
    rw [s430]
    simp only [look_nat hi, k1, k2, hes, cond_true, lt_dec_self, cond_false, List.take_length]
theorem net43 : netS.ok Try.prog 43 := fun ds r hD hv => by
  obtain ⟨ac, bs, ms, qs, i, rfl, hT, hi, h6, hb⟩ := hD
  cases hv
  rw [Int.toNat_natCast]
  exact spec_run (lsp := lb) tab_ok noSp_ok 20 (0 + 8) ((t43 20 0 ac bs ms qs i).trans (need_pos (loop430 20 (0 + 4) hT hi h6 hb)))
theorem BK.net {ac bs ms qs : List (List DV)} (h : BK ac bs ms qs) {i : Nat} (hi : i < ac.length) : netS.D [.agg (bk ac bs ms qs), .int .i64 ((i : Nat) : Int)] ∧ (-72057594037927936 * 6 ≤ sumR (rw qs i) ∧ sumR (rw qs i) ≤ 72057594037927936 * 6) := by
  have hb : ∀ r ∈ rw qs i, -72057594037927936 < cel r ∧ cel r < 72057594037927936 := fun r hr => by
    obtain ⟨j, hj, rfl⟩ := List.getElem_of_mem hr
    have := h.cq i j hi (by rw [h.rq i hi] at hj; exact hj)
    unfold at2 at this
    rw [getD_at hj] at this
    exact this
  have h6 : (rw qs i).length ≤ 6 := by rw [h.rq i hi]; exact h.n6
  refine ⟨⟨_, _, _, _, _, rfl, h.t, by rw [h.lq]; exact hi, h6, hb⟩, ?_⟩
  have := sumR_bound hb
  omega
end Go.Proofs.Ythjcfiekdejdgaa
