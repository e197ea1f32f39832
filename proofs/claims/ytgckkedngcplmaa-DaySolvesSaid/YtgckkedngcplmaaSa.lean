/- What is known of the loops and the functions of this seat, by their runs. No condition. -/
import Derived.Test.YtgckkedngcplmaaCode
import Derived.Test.YtgckkedngcplmaaVmR
namespace Go.Proofs.Ytgckkedngcplmaa
open Go Go.Proofs Vm
set_option linter.unusedVariables false
set_option linter.unusedSimpArgs false

abbrev zA : List DV := [.int .i64 0, .int .i64 0]
def odd0 (e : List DV) : Bool := !bif decide ((cellA e 0).toI ≥ 0) then decide ((cellA e 0).toI ≤ 1048576) else false
def odd1 (e : List DV) : Bool := !bif decide ((cellA e 1).toI ≥ 0) then decide ((cellA e 1).toI ≤ 10000) else false
/-- an asset that may not be -/
def oddA (e : List DV) : Bool := bif odd0 e then true else odd1 e
/-- the place of the first such row -/
def findI (p : List DV → Bool) : List (List DV) → Nat → Option Nat
  | [], _ => none
  | e :: l, i => cond (p e) (some i) (findI p l (i + 1))
theorem findI_isSome (p : List DV → Bool) : ∀ (l : List (List DV)) (i : Nat), (findI p l i).isSome = l.any p
  | [], _ => rfl
  | e :: l, i => by
    simp only [findI, List.any_cons]
    cases h : p e with
    | true => rfl
    | false => simpa using findI_isSome p l (i + 1)
def endI (o : Option Nat) : LR := .br o.isSome (.one .ret (St.of [(4, .d (.int .i64 (o.getD 0)))] [])) (.one (.ex 0) (St.of [] []))
def S380 (s : DV) (N i : Int) : St := St.of [(0, .d s), (1, .d (.func 33 [])), (7, .d (.int .i64 N)), (8, .d (.int .i64 i))] []
def l380 : LSpec := fun st =>
  match st.env 0, st.env 1, st.env 8 with
  | .d s, .d (.func 33 []), .d (.int _ i) => endI (findI oddA ((rows s).drop i.toNat) i.toNat)
  | _, _, _ => .no
def S120 (a b c d s : DV) (i : Int) : St := St.of [(1, .ptr 1 5 0 0), (3, .d (.int .i64 i))] [(1, some (.dat 24 5 [[a, s, b, c, d]]))]
def end120 (a b c d s : DV) (l : List (List DV)) : LR := .br (l.any oddA) (.one .ret (St.of [(2, .d (.bool false))] [(45, none), (51, none), (56, none)])) (.one (.ex 0) (St.of [(1, .ptr 1 5 0 0)] [(1, some (.dat 24 5 [[a, s, b, c, d]]))]))
def l120 : LSpec := fun st =>
  match st.env 3, st.seg 1 with
  | .d (.int _ i), some (.dat _ _ [[a, s, b, c, d]]) => end120 a b c d s ((rows s).drop i.toNat)
  | _, _ => .no
def lsp (key : Nat) : Option LSpec := if key = 380 then some l380 else if key = 120 then some l120 else none

theorem step380 (L n : Nat) (q : SK) (es : List (List DV)) (N : Int) (i : Nat) (k : Kont) :
    LB tab noSp lsp L (n + 4) h380 c38l0 (S380 (.sl q 2 es) N i) k =
    cond (decide ((i : Int) < N)) (lookK (es[(i : Int).toNat]?) fun e => cond (okRow zA e)
      (cond (oddA e) (k .ret (St.of [(4, .d (.int .i64 i))] [])) (k .nrm (S380 (.sl q 2 es) N (IntKind.i64.wrap ((i : Int) + 1))))) none) (k (.ex 0) (St.of [] [])) := by
  kernel_rfl
theorem step380n (L n : Nat) (k : Kont) : LB tab noSp lsp L (n + 4) h380 c38l0 (S380 .nilsl 0 0) k = k (.ex 0) (St.of [] []) := by
  kernel_rfl
theorem step120 (L n : Nat) (q : SK) (es : List (List DV)) (a b c d : DV) (i : Nat) (k : Kont) :
    LB tab noSp lsp L (n + 4) h120 c12l0 (S120 a b c d (.sl q 2 es) i) k =
    cond (decide ((i : Int) < es.length)) (lookK (es[(i : Int).toNat]?) fun e => cond (okRow zA e)
      (cond (odd0 e) (k .ret (St.of [(2, .d (.bool false))] [(45, none), (51, none), (56, none)]))
        (lookK (es[(i : Int).toNat]?) fun e => cond (okRow zA e)
          (cond (odd1 e) (k .ret (St.of [(2, .d (.bool false))] [(45, none), (51, none), (56, none)])) (k .nrm (S120 a b c d (.sl q 2 es) (IntKind.i64.wrap ((i : Int) + 1))))) none)) none)
      (k (.ex 0) (St.of [(1, .ptr 1 5 0 0)] [(1, some (.dat 24 5 [[a, .sl q 2 es, b, c, d]]))])) := by
  kernel_rfl
theorem step120n (L n : Nat) (a b c d : DV) (k : Kont) : LB tab noSp lsp L (n + 4) h120 c12l0 (S120 a b c d .nilsl 0) k = k (.ex 0) (St.of [(1, .ptr 1 5 0 0)] [(1, some (.dat 24 5 [[a, .nilsl, b, c, d]]))]) := by
  kernel_rfl

theorem loop380 (L n : Nat) {s : DV} (hs : Vm.Rows zA 1099511627776 s) : ∀ r, (l380 (S380 s (rows s).length 0)).val = some r → LoopOk (LB tab noSp lsp L (n + 4) h380 c38l0) (S380 s (rows s).length 0) r := by
  intro r hr
  rcases hs with rfl | ⟨q, es, rfl, hz, hl⟩
  · have : r = (.ex 0, St.of [] []) := (Option.some.inj hr).symm
    subst this
    exact loop_one (by simp) fun k => step380n L n k
  · have key := loop_rounds (f := LB tab noSp lsp L (n + 4) h380 c38l0) (fun i => S380 (.sl q 2 es) es.length (i : Nat)) (fun i => ((endI (findI oddA (es.drop i) i)).val).getD (.nrm, St.of [] [])) es.length
      (fun i hi => by
        have he : es[i]? = some es[i] := List.getElem?_eq_getElem hi
        have hd : es.drop i = es[i] :: es.drop (i + 1) := List.drop_eq_getElem_cons hi
        have hw : IntKind.i64.wrap ((i : Int) + 1) = ((i + 1 : Nat) : Int) := by rw [wrap_fits] <;> omega
        have hzi := hz es[i] (List.getElem_mem hi)
        have hlt : ((i : Int) < (es.length : Int)) := by omega
        simp only [step380, Int.toNat_natCast, he, lookK_some, hzi, cond_true, hlt, decide_true, hw, hd, findI]
        cases ho : oddA es[i] with
        | true => right; simp [endI, LR.val]
        | false => left; simp)
      (by
        simp [step380, findI, endI, LR.val])
    have hr' : (endI (findI oddA es 0)).val = some r := hr
    have := key 0 (Nat.zero_le _)
    simp only [List.drop_zero, hr', Option.getD_some] at this
    exact this
theorem loop120 (L n : Nat) (a b c d : DV) {s : DV} (hs : Vm.Rows zA 1099511627776 s) : ∀ r, (l120 (S120 a b c d s 0)).val = some r → LoopOk (LB tab noSp lsp L (n + 4) h120 c12l0) (S120 a b c d s 0) r := by
  intro r hr
  rcases hs with rfl | ⟨q, es, rfl, hz, hl⟩
  · have : r = (.ex 0, St.of [(1, .ptr 1 5 0 0)] [(1, some (.dat 24 5 [[a, .nilsl, b, c, d]]))]) := (Option.some.inj hr).symm
    subst this
    exact loop_one (by simp) fun k => step120n L n a b c d k
  · have key := loop_rounds (f := LB tab noSp lsp L (n + 4) h120 c12l0) (fun i => S120 a b c d (.sl q 2 es) (i : Nat)) (fun i => ((end120 a b c d (.sl q 2 es) (es.drop i)).val).getD (.nrm, St.of [] [])) es.length
      (fun i hi => by
        have he : es[i]? = some es[i] := List.getElem?_eq_getElem hi
        have hd : es.drop i = es[i] :: es.drop (i + 1) := List.drop_eq_getElem_cons hi
        have hw : IntKind.i64.wrap ((i : Int) + 1) = ((i + 1 : Nat) : Int) := by rw [wrap_fits] <;> omega
        have hzi := hz es[i] (List.getElem_mem hi)
        have hlt : ((i : Int) < (es.length : Int)) := by omega
        have ha : (es.drop i).any oddA = (oddA es[i] || (es.drop (i + 1)).any oddA) := by rw [hd, List.any_cons]
        simp only [step120, Int.toNat_natCast, he, lookK_some, hzi, cond_true, hlt, decide_true, hw, end120, ha]
        cases h0 : odd0 es[i] with
        | true => right; simp [LR.val, oddA, h0]
        | false =>
          cases h1 : odd1 es[i] with
          | true => right; simp [LR.val, oddA, h0, h1]
          | false => left; simp [oddA, h0, h1])
      (by
        simp [step120, end120, LR.val])
    have hr' : (end120 a b c d (.sl q 2 es) es).val = some r := hr
    have := key 0 (Nat.zero_le _)
    simp only [List.drop_zero, hr', Option.getD_some] at this
    exact this

/-! ### may rules be? -/
def isR (pa : Int) (es : List (List DV)) (cu cl pe : Int) : Bool :=
  decide (1 ≤ pa ∧ pa ≤ 6 ∧ es.length ≤ 3 ∧ 1 ≤ cl ∧ cl ≤ 1048576 ∧ 0 ≤ cu ∧ cu ≤ cl ∧ 1 ≤ pe ∧ pe ≤ 1048576) && !es.any oddA
def isS : FSpec where
  D ds := ∃ pa s cu cl pe, ds = [.agg [.int .i64 pa, s, .int .i64 cu, .int .i64 cl, .int .i64 pe]] ∧ Vm.Rows zA 1099511627776 s
  val ds := match ds with
    | [.agg [.int _ pa, s, .int _ cu, .int _ cl, .int _ pe]] => some (.bool (isR pa (rows s) cu cl pe))
    | _ => none
def times (n pa cu cl pe : Int) : Bool :=
  bif bif bif decide (pa ≥ 1) then decide (pa ≤ 6) else false then decide (n ≤ 3) else false then bif bif bif decide (cl ≥ 1) then decide (cl ≤ 1048576) else false then bif decide (cu ≥ 0) then decide (cu ≤ cl) else false else false then bif decide (pe ≥ 1) then decide (pe ≤ 1048576) else false else false else false
theorem tree20 (L n : Nat) (pa cu cl pe : Int) (q : SK) (es : List (List DV)) : FK tab noSp lsp L (n + 8) 20 [.agg [.int .i64 pa, .sl q 2 es, .int .i64 cu, .int .i64 cl, .int .i64 pe]] =
    cond (times es.length pa cu cl pe)
      (cond ((findI oddA es 0).isSome)
        (need (LoopOk (LB tab noSp lsp L (n + 2 + 4) h380 c38l0) (S380 (.sl q 2 es) es.length 0) (.ret, St.of [(4, .d (.int .i64 ((findI oddA es 0).getD 0)))] [])) (some (.bool (!decide ((((findI oddA es 0).getD 0 : Nat) : Int) ≥ 0)))))
        (need (LoopOk (LB tab noSp lsp L (n + 2 + 4) h380 c38l0) (S380 (.sl q 2 es) es.length 0) (.ex 0, St.of [] [])) (some (.bool true))))
      (some (.bool false)) := by kernel_rfl
theorem tree20n (L n : Nat) (pa cu cl pe : Int) : FK tab noSp lsp L (n + 8) 20 [.agg [.int .i64 pa, .nilsl, .int .i64 cu, .int .i64 cl, .int .i64 pe]] =
    cond (times 0 pa cu cl pe)
        (need (LoopOk (LB tab noSp lsp L (n + 2 + 4) h380 c38l0) (S380 .nilsl 0 0) (.ex 0, St.of [] [])) (some (.bool true)))
      (some (.bool false)) := by kernel_rfl
theorem times_isR (pa : Int) (es : List (List DV)) (cu cl pe : Int) : (times es.length pa cu cl pe && !es.any oddA) = isR pa es cu cl pe := by
  unfold times isR
  congr 1
  rw [Bool.eq_iff_iff]
  simp only [Bool.cond_eq_true_distrib, ge_iff_le, decide_eq_true_eq]
  simp
  omega
theorem is20_ok : isS.ok Try.prog 20 := fspec_ok (lsp := lsp) tab_ok noSp_ok fun ds hD => by
  obtain ⟨pa, s, cu, cl, pe, rfl, hs⟩ := hD
  refine ⟨100, 0 + 8, ?_⟩
  have hl := loop380 100 (0 + 2) hs
  rcases hs with rfl | ⟨q, es, rfl, hz, hn⟩
  · have h0 : LoopOk (LB tab noSp lsp 100 (0 + 2 + 4) h380 c38l0) (S380 .nilsl 0 0) (.ex 0, St.of [] []) := hl _ rfl
    rw [tree20n, need_pos h0]
    simp only [isS, rows]
    rw [← times_isR]
    show _ = some (DV.bool (times 0 pa cu cl pe && !([] : List (List DV)).any oddA))
    cases h : times 0 pa cu cl pe <;> simp
  · rw [show (DV.sl q zA.length es) = .sl q 2 es from rfl, tree20]
    have h1 : (findI oddA es 0).isSome = true → LoopOk (LB tab noSp lsp 100 (0 + 2 + 4) h380 c38l0) (S380 (.sl q 2 es) es.length 0) (.ret, St.of [(4, .d (.int .i64 ((findI oddA es 0).getD 0)))] []) := fun h => hl _ (by
      show (endI (findI oddA es 0)).val = _
      simp [endI, LR.val, h])
    have h2 : (findI oddA es 0).isSome = false → LoopOk (LB tab noSp lsp 100 (0 + 2 + 4) h380 c38l0) (S380 (.sl q 2 es) es.length 0) (.ex 0, St.of [] []) := fun h => hl _ (by
      show (endI (findI oddA es 0)).val = _
      simp [endI, LR.val, h])
    simp only [isS, rows]
    rw [← times_isR]
    cases h : times es.length pa cu cl pe with
    | false => simp
    | true =>
      cases hf : (findI oddA es 0).isSome with
      | true =>
        rw [need_pos (h1 hf)]
        have := findI_isSome oddA es 0
        rw [hf] at this
        simp [← this]
      | false =>
        rw [need_pos (h2 hf)]
        have := findI_isSome oddA es 0
        rw [hf] at this
        simp [← this]

def times12 (cu cl pe : Int) : Bool := bif bif bif decide (cl ≥ 1) then decide (cl ≤ 1048576) else false then bif decide (cu ≥ 0) then decide (cu ≤ cl) else false else false then bif decide (pe ≥ 1) then decide (pe ≤ 1048576) else false else false
theorem tree12 (L n : Nat) (pa cu cl pe : Int) (q : SK) (es : List (List DV)) : FK tab noSp lsp L (n + 8) 12 [.agg [.int .i64 pa, .sl q 2 es, .int .i64 cu, .int .i64 cl, .int .i64 pe]] =
    cond (bif bif decide (pa < 1) then true else decide (pa > 6) then true else decide ((es.length : Int) > 3)) (some (.bool false))
      (cond (es.any oddA)
        (need (LoopOk (LB tab noSp lsp L (n + 4 + 4) h120 c12l0) (S120 (.int .i64 pa) (.int .i64 cu) (.int .i64 cl) (.int .i64 pe) (.sl q 2 es) 0) (.ret, St.of [(2, .d (.bool false))] [(45, none), (51, none), (56, none)])) (some (.bool false)))
        (need (LoopOk (LB tab noSp lsp L (n + 4 + 4) h120 c12l0) (S120 (.int .i64 pa) (.int .i64 cu) (.int .i64 cl) (.int .i64 pe) (.sl q 2 es) 0) (.ex 0, St.of [(1, .ptr 1 5 0 0)] [(1, some (.dat 24 5 [[.int .i64 pa, .sl q 2 es, .int .i64 cu, .int .i64 cl, .int .i64 pe]]))])) (some (.bool (times12 cu cl pe))))) := by kernel_rfl
theorem tree12n (L n : Nat) (pa cu cl pe : Int) : FK tab noSp lsp L (n + 8) 12 [.agg [.int .i64 pa, .nilsl, .int .i64 cu, .int .i64 cl, .int .i64 pe]] =
    cond (bif bif decide (pa < 1) then true else decide (pa > 6) then true else decide ((0 : Int) > 3)) (some (.bool false))
        (need (LoopOk (LB tab noSp lsp L (n + 4 + 4) h120 c12l0) (S120 (.int .i64 pa) (.int .i64 cu) (.int .i64 cl) (.int .i64 pe) .nilsl 0) (.ex 0, St.of [(1, .ptr 1 5 0 0)] [(1, some (.dat 24 5 [[.int .i64 pa, .nilsl, .int .i64 cu, .int .i64 cl, .int .i64 pe]]))])) (some (.bool (times12 cu cl pe)))) := by kernel_rfl
theorem times12_isR (pa : Int) (es : List (List DV)) (cu cl pe : Int) :
    (!(bif bif decide (pa < 1) then true else decide (pa > 6) then true else decide ((es.length : Int) > 3)) && (!es.any oddA && times12 cu cl pe)) = isR pa es cu cl pe := by
  unfold times12 isR
  cases es.any oddA with
  | true => simp
  | false =>
    rw [Bool.eq_iff_iff]
    simp only [Bool.cond_eq_true_distrib, ge_iff_le, decide_eq_true_eq, Bool.not_false, Bool.and_true, Bool.true_and]
    simp
    omega
theorem is12_ok : isS.ok Try.prog 12 := fspec_ok (lsp := lsp) tab_ok noSp_ok fun ds hD => by
  obtain ⟨pa, s, cu, cl, pe, rfl, hs⟩ := hD
  refine ⟨100, 0 + 8, ?_⟩
  have hl := loop120 100 (0 + 4) (.int .i64 pa) (.int .i64 cu) (.int .i64 cl) (.int .i64 pe) hs
  rcases hs with rfl | ⟨q, es, rfl, hz, hn⟩
  · have h0 : LoopOk (LB tab noSp lsp 100 (0 + 4 + 4) h120 c12l0) (S120 (.int .i64 pa) (.int .i64 cu) (.int .i64 cl) (.int .i64 pe) .nilsl 0) (.ex 0, St.of [(1, .ptr 1 5 0 0)] [(1, some (.dat 24 5 [[.int .i64 pa, .nilsl, .int .i64 cu, .int .i64 cl, .int .i64 pe]]))]) := hl _ rfl
    rw [tree12n, need_pos h0]
    show _ = some (DV.bool (isR pa [] cu cl pe))
    rw [← times12_isR]
    show _ = some (DV.bool (!(bif bif decide (pa < 1) then true else decide (pa > 6) then true else decide ((0 : Int) > 3)) && (!([] : List (List DV)).any oddA && times12 cu cl pe)))
    cases (bif bif decide (pa < 1) then true else decide (pa > 6) then true else decide ((0 : Int) > 3)) <;> simp
  · have hl' : ∀ r, (end120 (.int .i64 pa) (.int .i64 cu) (.int .i64 cl) (.int .i64 pe) (.sl q 2 es) es).val = some r → LoopOk (LB tab noSp lsp 100 (0 + 4 + 4) h120 c12l0) (S120 (.int .i64 pa) (.int .i64 cu) (.int .i64 cl) (.int .i64 pe) (.sl q 2 es) 0) r := hl
    rw [show (DV.sl q zA.length es) = .sl q 2 es from rfl, tree12]
    show _ = some (DV.bool (isR pa es cu cl pe))
    rw [← times12_isR]
    cases (bif bif decide (pa < 1) then true else decide (pa > 6) then true else decide ((es.length : Int) > 3)) with
    | true => simp
    | false =>
      cases ho : es.any oddA with
      | true =>
        simp only [cond_true, cond_false]
        refine (need_pos (hl' _ (by simp only [end120, LR.val, ho, cond_true]))).trans ?_
        simp
      | false =>
        simp only [cond_false]
        refine (need_pos (hl' _ (by simp only [end120, LR.val, ho, cond_false]))).trans ?_
        simp

def trueS : FSpec where
  D ds := ds = []
  val ds := some (.bool true)
theorem known7 : trueS.ok Try.prog 21 := fspec_ok (lsp := fun _ => none) tab_ok noSp_ok fun ds hD => by
  cases hD
  exact ⟨100, 10, by kernel_rfl⟩
theorem known11 : trueS.ok Try.prog 19 := fspec_ok (lsp := fun _ => none) tab_ok noSp_ok fun ds hD => by
  cases hD
  exact ⟨100, 10, by kernel_rfl⟩
noncomputable def sp1 : FuncId → Option FSpec := spAdd 12 isS (spAdd 20 isS (spAdd 21 trueS (spAdd 19 trueS noSp)))
theorem sp1_ok : ∀ f s, sp1 f = some s → s.ok Try.prog f := spAdd_ok is12_ok (spAdd_ok is20_ok (spAdd_ok known7 (spAdd_ok known11 noSp_ok)))
end Go.Proofs.Ytgckkedngcplmaa
