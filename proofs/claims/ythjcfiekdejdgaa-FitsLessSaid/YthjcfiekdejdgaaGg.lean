/- What is known of isShort. No condition. -/
import Derived.Test.YthjcfiekdejdgaaGf
namespace Go.Proofs.Ythjcfiekdejdgaa
open Go Go.Proofs Go.RowKit Vm
set_option linter.unusedVariables false
set_option linter.unusedSimpArgs false
def mD (n : Nat) (l : List (List DV)) : DV := .agg [.sl .ro 1 (X0 n l), .sl .ro 1 (Y0 n l), .sl .ro 1 (cQ n l)]
def S310 (v3 : AV) (s : Int) (kk : Bool) (sz : Nat) (es : List (List DV)) (m i : Int) (o4 o5 o6 o9 o10 : Option Ob) : St :=
  St.of [(3, v3), (4, .ptr 4 3 0 0), (5, .ptr 5 4 0 0), (6, .ptr 6 1 0 0), (9, .ptr 9 3 0 0), (10, .ptr 10 1 0 0), (11, .d (.int .i64 s)), (39, .d (.sla kk sz es)), (40, .d (.int .i64 m)), (41, .d (.int .i64 i))] [(34, none), (4, o4), (5, o5), (6, o6), (9, o9), (10, o10)]
def E310 (v3 : AV) (s : Int) (o4 o5 o6 o9 o10 : Option Ob) : St :=
  St.of [(3, v3), (4, .ptr 4 3 0 0), (5, .ptr 5 4 0 0), (6, .ptr 6 1 0 0), (9, .ptr 9 3 0 0), (10, .ptr 10 1 0 0), (11, .d (.int .i64 s))] [(34, none), (4, o4), (5, o5), (6, o6), (9, o9), (10, o10)]
def l310 : LSpec := fun st => match st.env 11, st.env 39 with
  | .d (.int _ s), .d (.sla _ _ es) => .one (.ex 0) (E310 (st.env 3) (s + sumR es) (st.seg 4) (st.seg 5) (st.seg 6) (st.seg 9) (st.seg 10))
  | _, _ => .no
def lG (k : Nat) : Option LSpec := if k = 310 then some l310 else none
noncomputable def spI : FuncId → Option FSpec := spAdd 28 conS (spAdd 38 netS noSp)
def O5 (b : List DV) : Option Ob := some (.dat 26 4 [b])
def O4 (X Y Q : List (List DV)) : Option Ob := some (.dat 58 3 [[.sl .ro 1 X, .sl .ro 1 Y, .sl .ro 1 Q]])
def O6 (i : Int) : Option Ob := some (.dat 3 1 [[.int .i64 i]])
def O9 (a b c : Int) : Option Ob := some (.dat 47 3 [[.int .i64 a, .int .i64 b, .int .i64 c]])
def O10 (a : Int) : Option Ob := some (.dat 2 1 [[.int .i64 a]])
theorem s310 (L n : Nat) (l X Y Q ac bs ms qs : List (List DV)) (ii b0 b1 b2 ro s : Int) (kk : Bool) (sz : Nat) (es : List (List DV)) (m i : Nat) (k : Kont) : LB tab spI lG L (n+4) h310 c31l0 (S310 (.d (.sla false 7 l)) s kk sz es m i (O4 X Y Q) (O5 (bk ac bs ms qs)) (O6 ii) (O9 b0 b1 b2) (O10 ro)) k =
   (bif decide ((↑i : Int) < (↑m : Int)) then
 bif decide ((1 : Nat) = sz) then
 lookK es[i]? fun (e2 : List DV) =>
 bif okRow [DV.int .i64 0] e2 then
 k Ex.nrm
 (St.of
 [(3, AV.d (DV.sla false 7 l)), (4, AV.ptr 4 3 0 0),
 ((5 : Nat), AV.ptr 5 4 0 0), (6, AV.ptr 6 1 0 0),
 ((9 : Nat), AV.ptr 9 3 0 0), (10, AV.ptr 10 1 0 0),
 ((11 : Nat), AV.d (DV.int .i64 (IntKind.i64.wrap (s + (cellA e2 0).toI)))), (39, AV.d (DV.sla kk sz es)),
 ((40 : Nat), AV.d (DV.int .i64 (↑m : Int))), (41, AV.d (DV.int .i64 (IntKind.i64.wrap ((↑i : Int) + (1 : Int)))))]
 [(34, none),
 ((4 : Nat), some (Ob.dat 58 3 [[DV.sl SK.ro 1 X, DV.sl SK.ro 1 Y, DV.sl SK.ro 1 Q]])),
 ((5 : Nat),
 some
 (Ob.dat 26 4
 [[DV.sla false 3 ac, DV.sla false 1 bs, DV.sla false 1 ms, DV.sla false 1 qs]])),
 ((6 : Nat), some (Ob.dat 3 1 [[DV.int .i64 ii]])),
 ((9 : Nat), some (Ob.dat 47 3 [[DV.int .i64 b0, DV.int .i64 b1, DV.int .i64 b2]])),
 ((10 : Nat), some (Ob.dat 2 1 [[DV.int .i64 ro]]))])
 else none
 else none
 else
 k (Ex.ex (0 : Nat))
 (St.of
 [(3, AV.d (DV.sla false 7 l)), (4, AV.ptr 4 3 0 0),
 ((5 : Nat), AV.ptr 5 4 0 0), (6, AV.ptr 6 1 0 0),
 ((9 : Nat), AV.ptr 9 3 0 0), (10, AV.ptr 10 1 0 0),
 ((11 : Nat), AV.d (DV.int .i64 s))]
 [(34, none), (4, some (Ob.dat 58 3 [[DV.sl SK.ro 1 X, DV.sl SK.ro 1 Y, DV.sl SK.ro 1 Q]])),
 ((5 : Nat),
 some
 (Ob.dat 26 4
 [[DV.sla false 3 ac, DV.sla false 1 bs, DV.sla false 1 ms, DV.sla false 1 qs]])),
 ((6 : Nat), some (Ob.dat 3 1 [[DV.int .i64 ii]])),
 ((9 : Nat), some (Ob.dat 47 3 [[DV.int .i64 b0, DV.int .i64 b1, DV.int .i64 b2]])),
 ((10 : Nat), some (Ob.dat 2 1 [[DV.int .i64 ro]]))])) :=
  (show LB tab spI lG L (n+4) h310 c31l0 (S310 (.d (.sla false 7 l)) s kk sz es m i (O4 X Y Q) (O5 (bk ac bs ms qs)) (O6 ii) (O9 b0 b1 b2) (O10 ro)) k =
 (cond (decide ((↑i : Int) < (↑m : Int)))
 (cond (decide ((1 : Nat) = sz))
 (lookK (es[(↑i : Int).toNat]?)
 fun e2 =>
 (cond (okRow [DV.int .i64 0] e2)
 (k .nrm (St.of [(3, (.d (.sla false 7 l))), (4, (.ptr 4 3 0 0)), (5, (.ptr 5 4 0 0)), (6, (.ptr 6 1 0 0)), (9, (.ptr 9 3 0 0)), (10, (.ptr 10 1 0 0)), (11, (.d (.int .i64 (IntKind.i64.wrap (s + (cellA e2 0).toI))))), (39, (.d (.sla kk sz es))), (40, (.d (.int .i64 ((↑m : Int))))), (41, (.d (.int .i64 (IntKind.i64.wrap ((↑i : Int) + (1 : Int))))))] [(34, .none), (4, (.some (.dat 58 3 [[(.sl (SK.ro) 1 X), (.sl (SK.ro) 1 Y), (.sl (SK.ro) 1 Q)]]))), (5, (.some (.dat 26 4 [[(.sla false 3 ac), (.sla false 1 bs), (.sla false 1 ms), (.sla false 1 qs)]]))), (6, (.some (.dat 3 1 [[(.int .i64 ii)]]))), (9, (.some (.dat 47 3 [[(.int .i64 b0), (.int .i64 b1), (.int .i64 b2)]]))), (10, (.some (.dat 2 1 [[(.int .i64 ro)]])))]))
 none))
 none)
 (k (.ex 0) (St.of [(3, (.d (.sla false 7 l))), (4, (.ptr 4 3 0 0)), (5, (.ptr 5 4 0 0)), (6, (.ptr 6 1 0 0)), (9, (.ptr 9 3 0 0)), (10, (.ptr 10 1 0 0)), (11, (.d (.int .i64 s)))] [(34, .none), (4, (.some (.dat 58 3 [[(.sl (SK.ro) 1 X), (.sl (SK.ro) 1 Y), (.sl (SK.ro) 1 Q)]]))), (5, (.some (.dat 26 4 [[(.sla false 3 ac), (.sla false 1 bs), (.sla false 1 ms), (.sla false 1 qs)]]))), (6, (.some (.dat 3 1 [[(.int .i64 ii)]]))), (9, (.some (.dat 47 3 [[(.int .i64 b0), (.int .i64 b1), (.int .i64 b2)]]))), (10, (.some (.dat 2 1 [[(.int .i64 ro)]])))]))) from by kernel_rfl).trans (by first | rfl | (simp only [decide_true, decide_false, eq_self, and_true, true_and, and_self, cond_true, cond_false, Nat.le_refl, Int.le_refl, Option.getD_some, Option.getD_none, Int.toNat_natCast, List.take_length, List.drop_zero, Nat.zero_add, List.nil_append, List.all_nil, List.append_nil, Bool.true_and, Bool.and_true, rowsA_sla, rowsA_sl, rowsA_nil, minus_zero, nat_le_cast, nat_nonneg, Option.isSome_some, Option.isSome_none, Bool.false_eq_true, false_and, and_false, if_true, if_false, implies_true, Int.toNat_zero, Bool.not_false, Bool.not_true, bne_self_eq_false]; done) | (simp only [decide_true, decide_false, eq_self, and_true, true_and, and_self, cond_true, cond_false, Nat.le_refl, Int.le_refl, Option.getD_some, Option.getD_none, Int.toNat_natCast, List.take_length, List.drop_zero, Nat.zero_add, List.nil_append, List.all_nil, List.append_nil, Bool.true_and, Bool.and_true, rowsA_sla, rowsA_sl, rowsA_nil, minus_zero, nat_le_cast, nat_nonneg, Option.isSome_some, Option.isSome_none, Bool.false_eq_true, false_and, and_false, if_true, if_false, implies_true, Int.toNat_zero, Bool.not_false, Bool.not_true, bne_self_eq_false]; rfl))
def roA (e0 e3 : List DV) : Int := IntKind.i64.wrap (IntKind.i64.wrap ((cellA e0 0).toI + (cellA e0 1).toI) + (cellA e3 0).toI)
def K40 (b : List DV) (X Y Q : List (List DV)) (i : Int) (e0 e3 : List DV) : List DV := [.rptr [.int .i64 i] 0, .rptr [.int .i64 (cellA e0 0).toI, .int .i64 (cellA e0 1).toI, .int .i64 (cellA e0 2).toI] 0, .rptr [.sl .ro 1 X, .sl .ro 1 Y, .sl .ro 1 Q] 0, .rptr [.int .i64 (roA e0 e3)] 0, .rptr b 0]
theorem t31 (n : Nat) (ac bs ms qs X Y Q l : List (List DV)) (i : Nat) : FK tab spI lG 20 (n+12) 31 [.agg [.sl .ro 1 X, .sl .ro 1 Y, .sl .ro 1 Q], .agg (bk ac bs ms qs), .int .i64 ((i : Nat) : Int), .sla false 7 l] =
  lookK ac[((i : Nat) : Int).toNat]? fun e0 => cond (okRow z3 e0) (lookK X[((i : Nat) : Int).toNat]? fun e3 => cond (okRow z1 e3)
    (cond (decide (roA e0 e3 < 0)) (some (.bool true))
      (need (netS.D [.agg (bk ac bs ms qs), .int .i64 ((i : Nat) : Int)])
        (lookK Q[((i : Nat) : Int).toNat]? fun e8 => cond (okRow [.nilsl] e8)
          (need (LoopOk (LB tab spI lG 20 (n+12) h310 c31l0) (S310 (.d (.sla false 7 l)) (sumR (rw qs i)) (cellA e8 0).slT (cellA e8 0).slZ (cellA e8 0).slR ((cellA e8 0).slR.length : Nat) 0 (O4 X Y Q) (O5 (bk ac bs ms qs)) (O6 ((i : Nat) : Int)) (O9 (cellA e0 0).toI (cellA e0 1).toI (cellA e0 2).toI) (O10 (roA e0 e3)))
              (.ex 0, E310 (.d (.sla false 7 l)) (sumR (rw qs i) + sumR (cellA e8 0).slR) (O4 X Y Q) (O5 (bk ac bs ms qs)) (O6 ((i : Nat) : Int)) (O9 (cellA e0 0).toI (cellA e0 1).toI (cellA e0 2).toI) (O10 (roA e0 e3))))
            (lookK ms[((i : Nat) : Int).toNat]? fun e12 => cond (okRow z1 e12)
              (cond (bif (cellA e12 0).toI != (-1 : Int) then decide (sumR (rw qs i) + sumR (cellA e8 0).slR > (cellA e12 0).toI) else false) (some (.bool true))
                (need (conS.D [.sla false 7 l, .func 40 (K40 (bk ac bs ms qs) X Y Q ((i : Nat) : Int) e0 e3)])
                  (some (.bool (l.any (clB (.func 40 (K40 (bk ac bs ms qs) X Y Q ((i : Nat) : Int) e0 e3))))))))
              none))
          none))) none) none := by kernel_rfl
def roI (ac l : List (List DV)) (i : Nat) : Int := aci ac i 0 + aci ac i 1 + sumL (dM i) l
def neI (qs : List (List DV)) (n : Nat) (l : List (List DV)) (i : Nat) : Int := sumR (rw qs i) + sumR (cells n fun t => sumL (dQ i t) l)
def eB (ac bs qs l : List (List DV)) (i : Nat) (e : List DV) : Bool := pF e == (i : Int) && ((pC e == 3 && decide (roI ac l i < keptI (aci ac i 2) (sumL (dS i) l))) || (at2 bs i (pT e).toNat != -1 && decide (at2 qs i (pT e).toNat + sumL (dQ i (pT e).toNat) l > at2 bs i (pT e).toNat)))
def shV (ac bs ms qs l : List (List DV)) (i : Nat) : Bool := decide (roI ac l i < 0) || ((at1 ms i != -1 && decide (neI qs ac.length l i > at1 ms i)) || l.any (eB ac bs qs l i))
def isShS : FSpec where
  D ds := ∃ ac bs ms qs i x, ds = [mD ac.length (rowsA x), .agg (bk ac bs ms qs), .int .i64 ((i : Nat) : Int), x] ∧ BK ac bs ms qs ∧ i < ac.length ∧ Sl 7 x ∧ (rowsA x).length ≤ 1000 ∧ ∀ e ∈ rowsA x, PO ac.length e
  val ds := match ds with | [_, .agg [.sla _ _ ac, .sla _ _ bs, .sla _ _ ms, .sla _ _ qs], .int _ i, x] => some (.bool (shV ac bs ms qs (rowsA x) i.toNat)) | _ => none
theorem net38' : ∀ f s, spI f = some s → s.ok Try.prog f := spAdd_ok con28 (spAdd_ok net38 noSp_ok)
theorem sumR_bound' {B : Int} : ∀ {es : List (List DV)}, (∀ r ∈ es, -B ≤ cel r ∧ cel r ≤ B) → -(B * (es.length : Int)) ≤ sumR es ∧ sumR es ≤ B * (es.length : Int)
  | [], _ => by simp [sumR]
  | e :: l, h => by
    have h1 := h e (by simp)
    have h2 := sumR_bound' fun r hr => h r (List.mem_cons.2 (.inr hr))
    simp only [sumR, List.length_cons]
    rw [show (((l.length + 1 : Nat)) : Int) = (l.length : Int) + 1 by omega, Int.mul_add, Int.mul_one]
    omega
theorem loop310 {L n : Nat} {l X Y Q ac bs ms qs : List (List DV)} {ii b0 b1 b2 ro s : Int} {kk : Bool} {es : List (List DV)} (hz : ∀ r ∈ es, okRow z1 r = true ∧ (-1099511627776000 ≤ cel r ∧ cel r ≤ 1099511627776000)) (h6 : es.length ≤ 6) (hs : -600000000000000000 ≤ s ∧ s ≤ 600000000000000000) :
    LoopOk (LB tab spI lG L (n+4) h310 c31l0) (S310 (.d (.sla false 7 l)) s kk 1 es (es.length : Nat) 0 (O4 X Y Q) (O5 (bk ac bs ms qs)) (O6 ii) (O9 b0 b1 b2) (O10 ro)) (.ex 0, E310 (.d (.sla false 7 l)) (s + sumR es) (O4 X Y Q) (O5 (bk ac bs ms qs)) (O6 ii) (O9 b0 b1 b2) (O10 ro)) := by
  have h0 : S310 (.d (.sla false 7 l)) s kk 1 es (es.length : Nat) 0 (O4 X Y Q) (O5 (bk ac bs ms qs)) (O6 ii) (O9 b0 b1 b2) (O10 ro) = S310 (.d (.sla false 7 l)) (s + sumR (es.take 0)) kk 1 es (es.length : Nat) ((0 : Nat) : Int) (O4 X Y Q) (O5 (bk ac bs ms qs)) (O6 ii) (O9 b0 b1 b2) (O10 ro) := by
    rw [List.take_zero, show sumR [] = 0 from rfl, Int.add_zero]
    rfl
  rw [h0]
  refine loop_meas (fun i : Nat => S310 (.d (.sla false 7 l)) (s + sumR (es.take i)) kk 1 es (es.length : Nat) (i : Nat) (O4 X Y Q) (O5 (bk ac bs ms qs)) (O6 ii) (O9 b0 b1 b2) (O10 ro)) (fun i => es.length - i) (fun i => i ≤ es.length) (fun _ => (.ex 0, E310 (.d (.sla false 7 l)) (s + sumR es) (O4 X Y Q) (O5 (bk ac bs ms qs)) (O6 ii) (O9 b0 b1 b2) (O10 ro))) (fun i hs' => ?_) 0 (Nat.zero_le _)
  by_cases hi : i < es.length
  · left
    refine ⟨i + 1, hi, by omega, rfl, fun k => ?_⟩
    have hbt := sumR_bound' (es := es.take (i + 1)) (B := 1099511627776000) fun r hr => (hz r (List.mem_of_mem_take hr)).2
    have hlt : (es.take (i + 1)).length ≤ 6 := by rw [List.length_take]; omega
    rw [sumR_take hi] at hbt ⊢
    rw [s310, lt_dec hi, cond_true, decide_eq_true rfl, cond_true, look_nat hi, (hz _ (List.getElem_mem hi)).1, cond_true, wrap_succ (by omega)]
    rw [show (cellA es[i] 0).toI = cel es[i] from rfl, wrap_fits (n := s + sumR (es.take i) + cel es[i]) (by omega) (by omega), Int.add_assoc]
    rfl
  · right
    have : i = es.length := by omega
    subst this
    refine ⟨by simp, fun k => ?_⟩
    rw [s310, lt_dec_self, List.take_length]
    rfl
theorem any_congr' {φ ψ : List DV → Bool} {l : List (List DV)} (h : ∀ e ∈ l, φ e = ψ e) : l.any φ = l.any ψ := by
  induction l with
  | nil => rfl
  | cons a l ih =>
    rw [List.any_cons, List.any_cons, h a (by simp), ih fun e he => h e (List.mem_cons.2 (.inr he))]
theorem short31 : isShS.ok Try.prog 31 := fun ds r hD hv => by
  obtain ⟨ac, bs, ms, qs, i, x, rfl, hB, hi, hx, hl, hp⟩ := hD
  cases hv
  rw [Int.toNat_natCast]
  have hle : LLe [mD ac.length (rowsA x), .agg (bk ac bs ms qs), .int .i64 ((i : Nat) : Int), x] [mD ac.length (rowsA x), .agg (bk ac bs ms qs), .int .i64 ((i : Nat) : Int), .sla false 7 (rowsA x)] := LLe.cons (DLe.refl _) (LLe.cons (DLe.refl _) (LLe.cons (DLe.refl _) (LLe.cons hx.le LLe.nil)))
  refine EntX.args hle rfl rfl ?_
  generalize rowsA x = l at *
  refine spec_run (lsp := lG) tab_ok net38' 20 (0 + 12) ((t31 0 ac bs ms qs (X0 ac.length l) (Y0 ac.length l) (cQ ac.length l) l i).trans ?_)
  have em : i < ms.length := by rw [hB.lm]; exact hi
  have hca := hB.ca i hi
  have hca' := hca
  unfold isA at hca'
  obtain ⟨c1, c2, c3, c4, c5, c6⟩ := hca'
  obtain ⟨hnD, hnb⟩ := hB.net hi
  have bM := po_bM hl hp i
  simp only [Int.toNat_natCast]
  rw [look1 hi hB.t.a, show X0 ac.length l = cells ac.length fun j => sumL (dM j) l from rfl, cells_at _ hi, lookK_some]
  rw [show okRow z1 [DV.int .i64 (sumL (dM i) l)] = true from rfl, cond_true]
  have hro : roA (ac[i]?.getD []) [DV.int .i64 (sumL (dM i) l)] = roI ac l i := by
    show IntKind.i64.wrap (IntKind.i64.wrap (aci ac i 0 + aci ac i 1) + sumL (dM i) l) = _
    rw [wrap_fits (n := aci ac i 0 + aci ac i 1) (by omega) (by omega), wrap_fits (by omega) (by omega)]
    rfl
  rw [hro]
  unfold shV
  cases hr : decide (roI ac l i < 0) with
  | true => rfl
  | false =>
    rw [cond_false, Bool.false_or]
    refine (need_pos hnD).trans ?_
    rw [cQ_at l hi, lookK_some, show okRow [DV.nilsl] [DV.sla false 1 (cells ac.length fun t => sumL (dQ i t) l)] = true from rfl, cond_true]
    have hL := loop310 (L := 20) (n := 0 + 8) (l := l) (X := cells ac.length fun j => sumL (dM j) l) (Y := Y0 ac.length l) (Q := cQ ac.length l) (ac := ac) (bs := bs) (ms := ms) (qs := qs) (ii := ((i : Nat) : Int)) (b0 := aci ac i 0) (b1 := aci ac i 1) (b2 := aci ac i 2) (ro := roI ac l i) (s := sumR (rw qs i)) (kk := false) (es := cells ac.length fun t => sumL (dQ i t) l) (fun r hr => by
      obtain ⟨j, hj, rfl⟩ := List.mem_map.1 hr
      exact ⟨rfl, po_bQ hl hp i j⟩) (by rw [cells_len]; exact hB.n6) (by omega)
    refine (need_pos hL).trans ?_
    rw [look1 em (fun e he => (hB.t.m e he).1)]
    show cond (bif at1 ms i != (-1 : Int) then decide (neI qs ac.length l i > at1 ms i) else false) _ _ = _
    have hb : (bif at1 ms i != (-1 : Int) then decide (neI qs ac.length l i > at1 ms i) else false) = (at1 ms i != -1 && decide (neI qs ac.length l i > at1 ms i)) := by cases (at1 ms i != (-1 : Int)) <;> rfl
    rw [hb]
    cases hm : (at1 ms i != -1 && decide (neI qs ac.length l i > at1 ms i)) with
    | true => rfl
    | false =>
      rw [cond_false, Bool.false_or]
      have hK : K40 (bk ac bs ms qs) (cells ac.length fun j => sumL (dM j) l) (Y0 ac.length l) (cQ ac.length l) ((i : Nat) : Int) (ac[i]?.getD []) [DV.int .i64 (sumL (dM i) l)] = C40 (bk ac bs ms qs) ac.length l ((i : Nat) : Int) (aci ac i 0) (aci ac i 1) (aci ac i 2) (roI ac l i) := by
        unfold K40 C40
        rw [hro]
        rfl
      rw [hK]
      refine (need_pos ⟨_, _, _, rfl, Sl.sla 7 false l, by show l.length ≤ 1000000; omega, fun e he => (hp e he).z, ClD.c ac bs ms qs l i _ _ _ _ hB hi hca hp hl hp⟩).trans ?_
      congr 2
      refine any_congr' fun e he => ?_
      have hP := hp e he
      obtain ⟨t, ht⟩ : ∃ t : Nat, pT e = (t : Nat) := ⟨(pT e).toNat, by have := hP.t0; omega⟩
      have htn : t < ac.length := by have := hP.t1; omega
      show eC bs qs (Y0 ac.length l) (cQ ac.length l) ((i : Nat) : Int).toNat (roI ac l i) (aci ac i 2) e = _
      unfold eC eB
      rw [Int.toNat_natCast, ht, Int.toNat_natCast, at2_cQ l hi htn, show Y0 ac.length l = cells ac.length fun j => sumL (dS j) l from rfl, at1_cells _ hi]
end Go.Proofs.Ythjcfiekdejdgaa
