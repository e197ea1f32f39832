/- What is known of slices.Equal, of the reference's Same, and of DaySolves' loop, by their runs. No condition. -/
import Derived.Test.YtgckkedngcplmaaSa
namespace Go.Proofs.Ytgckkedngcplmaa
open Go Go.Proofs Vm
set_option linter.unusedVariables false
set_option linter.unusedSimpArgs false
def S100 (pe sh cnt t : Int) : St := St.of [(0, .d (.int .i64 pe)), (1, .d (.int .i64 sh)), (5, .ptr 5 5 0 0), (6, .d (.int .i64 cnt)), (7, .d (.int .i64 t))] [(200022, some (.dat 42 2 [[.int .i64 100, .int .i64 1000]])), (5, some (.mix 24 5 [[.d (.int .i64 2), .aref 200022 2 0 1, .d (.int .i64 0), .d (.int .i64 sh), .d (.int .i64 pe)]]))]
def E100 (pe sh cnt : Int) : St := St.of [(0, .d (.int .i64 pe)), (1, .d (.int .i64 sh)), (6, .d (.int .i64 cnt))] []
def l100 : LSpec := fun st =>
  match st.env 0, st.env 1 with
  | .d (.int _ pe), .d (.int _ sh) => .one (.ex 0) (E100 pe sh ((sh.toNat - 1) / pe.toNat : Nat))
  | _, _ => .no
def eqRow (a b : List DV) : Bool :=
  (cellA a 0).toI == (cellA b 0).toI && ((cellA a 1).toI == (cellA b 1).toI && ((cellA a 2).toI == (cellA b 2).toI && ((cellA a 3).toI == (cellA b 3).toI && ((cellA a 4).toI == (cellA b 4).toI && ((cellA a 5).toI == (cellA b 5).toI && ((cellA a 6).toI == (cellA b 6).toI && true))))))
def sameL : List (List DV) → List (List DV) → Bool
  | a :: l, b :: m => eqRow a b && sameL l m
  | _, _ => true
def endS (b : Bool) : LR := .br b (.one (.ex 0) (St.of [] [])) (.one .ret (St.of [(4, .d (.bool false))] []))
def S300 (x y : DV) (i : Int) : St := St.of [(0, .d x), (1, .d y), (5, .d (.int .i64 i))] []
def S360 (x y : DV) (N i : Int) : St := St.of [(0, .d x), (1, .d y), (12, .d (.int .i64 N)), (13, .d (.int .i64 i))] []
def lS : LSpec := fun st =>
  match st.env 0, st.env 1 with
  | .d x, .d y => endS (sameL (rows x) (rows y))
  | _, _ => .no
def lsp2 (key : Nat) : Option LSpec := if key = 100 then some l100 else if key = 300 then some lS else if key = 360 then some lS else none
theorem s100 (L n : Nat) (pe sh cnt t : Int) (k : Kont) : LB tab sp1 lsp2 L (n+4) h100 c10l0 (S100 pe sh cnt t) k =
    (cond (decide (t < IntKind.i64.wrap (sh + (3 : Int))))
     (cond (bif decide (t > (0 : Int)) then decide (t < sh) else false)
      (cond (decide (pe = (0 : Int)))
       none
       (cond (t.tmod pe == (0 : Int))
        (k .nrm (St.of [(0, (.d (.int .i64 pe))), (1, (.d (.int .i64 sh))), (5, (.ptr 5 5 0 0)), (6, (.d (.int .i64 (IntKind.i64.wrap (cnt + (1 : Int)))))), (7, (.d (.int .i64 (IntKind.i64.wrap (t + (1 : Int))))))] [(200022, (.some (.dat 42 2 [[(.int .i64 ((100 : Int))), (.int .i64 ((1000 : Int)))]]))), (5, (.some (.mix 24 5 [[(.d (.int .i64 ((2 : Int)))), (.aref 200022 2 0 1), (.d (.int .i64 ((0 : Int)))), (.d (.int .i64 sh)), (.d (.int .i64 pe))]])))]))
        (k .nrm (St.of [(0, (.d (.int .i64 pe))), (1, (.d (.int .i64 sh))), (5, (.ptr 5 5 0 0)), (6, (.d (.int .i64 cnt))), (7, (.d (.int .i64 (IntKind.i64.wrap (t + (1 : Int))))))] [(200022, (.some (.dat 42 2 [[(.int .i64 ((100 : Int))), (.int .i64 ((1000 : Int)))]]))), (5, (.some (.mix 24 5 [[(.d (.int .i64 ((2 : Int)))), (.aref 200022 2 0 1), (.d (.int .i64 ((0 : Int)))), (.d (.int .i64 sh)), (.d (.int .i64 pe))]])))]))
       )
      )
      (k .nrm (St.of [(0, (.d (.int .i64 pe))), (1, (.d (.int .i64 sh))), (5, (.ptr 5 5 0 0)), (6, (.d (.int .i64 cnt))), (7, (.d (.int .i64 (IntKind.i64.wrap (t + (1 : Int))))))] [(200022, (.some (.dat 42 2 [[(.int .i64 ((100 : Int))), (.int .i64 ((1000 : Int)))]]))), (5, (.some (.mix 24 5 [[(.d (.int .i64 ((2 : Int)))), (.aref 200022 2 0 1), (.d (.int .i64 ((0 : Int)))), (.d (.int .i64 sh)), (.d (.int .i64 pe))]])))]))
     )
     (k (.ex 0) (St.of [(0, (.d (.int .i64 pe))), (1, (.d (.int .i64 sh))), (6, (.d (.int .i64 cnt)))] []))
    ) := by kernel_rfl
theorem s300 (L n : Nat) (q q2 : SK) (es es2 : List (List DV)) (i : Nat) (k : Kont) : LB tab sp1 lsp2 L (n+4) h300 c30l0 (S300 (.sl q 7 es) (.sl q2 7 es2) i) k =
    (cond (decide ((↑i : Int) < (↑es.length : Int)))
     (lookK (es[(↑i : Int).toNat]?)
      fun e1 =>
       (cond (okRow [DV.int IntKind.i64 (0 : Int), DV.int IntKind.i64 (0 : Int), DV.int IntKind.i64 (0 : Int), DV.int IntKind.i64 (0 : Int), DV.int IntKind.i64 (0 : Int), DV.int IntKind.i64 (0 : Int), DV.int IntKind.i64 (0 : Int)] e1)
        (lookK (es2[(↑i : Int).toNat]?)
         fun e4 =>
          (cond (okRow [DV.int IntKind.i64 (0 : Int), DV.int IntKind.i64 (0 : Int), DV.int IntKind.i64 (0 : Int), DV.int IntKind.i64 (0 : Int), DV.int IntKind.i64 (0 : Int), DV.int IntKind.i64 (0 : Int), DV.int IntKind.i64 (0 : Int)] e4)
           (cond (!((cellA e1 (0 : Nat)).toI == (cellA e4 (0 : Nat)).toI && ((cellA e1 ((0 : Nat) + (1 : Nat))).toI == (cellA e4 ((0 : Nat) + (1 : Nat))).toI && ((cellA e1 ((0 : Nat) + (1 : Nat) + (1 : Nat))).toI == (cellA e4 ((0 : Nat) + (1 : Nat) + (1 : Nat))).toI && ((cellA e1 ((0 : Nat) + (1 : Nat) + (1 : Nat) + (1 : Nat))).toI == (cellA e4 ((0 : Nat) + (1 : Nat) + (1 : Nat) + (1 : Nat))).toI && ((cellA e1 ((0 : Nat) + (1 : Nat) + (1 : Nat) + (1 : Nat) + (1 : Nat))).toI == (cellA e4 ((0 : Nat) + (1 : Nat) + (1 : Nat) + (1 : Nat) + (1 : Nat))).toI && ((cellA e1 ((0 : Nat) + (1 : Nat) + (1 : Nat) + (1 : Nat) + (1 : Nat) + (1 : Nat))).toI == (cellA e4 ((0 : Nat) + (1 : Nat) + (1 : Nat) + (1 : Nat) + (1 : Nat) + (1 : Nat))).toI && ((cellA e1 ((0 : Nat) + (1 : Nat) + (1 : Nat) + (1 : Nat) + (1 : Nat) + (1 : Nat) + (1 : Nat))).toI == (cellA e4 ((0 : Nat) + (1 : Nat) + (1 : Nat) + (1 : Nat) + (1 : Nat) + (1 : Nat) + (1 : Nat))).toI && true))))))))
            (k .ret (St.of [(4, (.d (.bool false)))] []))
            (k .nrm (St.of [(0, (.d (.sl q 7 es))), (1, (.d (.sl q2 7 es2))), (5, (.d (.int .i64 (IntKind.i64.wrap ((↑i : Int) + (1 : Int))))))] []))
           )
           none
          )
        )
        none
       )
     )
     (k (.ex 0) (St.of [] []))
    ) := by kernel_rfl
theorem s360 (L n : Nat) (q q2 : SK) (es es2 : List (List DV)) (N : Int) (i : Nat) (k : Kont) : LB tab sp1 lsp2 L (n+4) h360 c36l0 (S360 (.sl q 7 es) (.sl q2 7 es2) N i) k =
    (cond (decide ((↑i : Int) < N))
     (lookK (es[(↑i : Int).toNat]?)
      fun e1 =>
       (cond (okRow [DV.int IntKind.i64 (0 : Int), DV.int IntKind.i64 (0 : Int), DV.int IntKind.i64 (0 : Int), DV.int IntKind.i64 (0 : Int), DV.int IntKind.i64 (0 : Int), DV.int IntKind.i64 (0 : Int), DV.int IntKind.i64 (0 : Int)] e1)
        (lookK (es2[(↑i : Int).toNat]?)
         fun e4 =>
          (cond (okRow [DV.int IntKind.i64 (0 : Int), DV.int IntKind.i64 (0 : Int), DV.int IntKind.i64 (0 : Int), DV.int IntKind.i64 (0 : Int), DV.int IntKind.i64 (0 : Int), DV.int IntKind.i64 (0 : Int), DV.int IntKind.i64 (0 : Int)] e4)
           (cond (!((cellA e1 (0 : Nat)).toI == (cellA e4 (0 : Nat)).toI && ((cellA e1 ((0 : Nat) + (1 : Nat))).toI == (cellA e4 ((0 : Nat) + (1 : Nat))).toI && ((cellA e1 ((0 : Nat) + (1 : Nat) + (1 : Nat))).toI == (cellA e4 ((0 : Nat) + (1 : Nat) + (1 : Nat))).toI && ((cellA e1 ((0 : Nat) + (1 : Nat) + (1 : Nat) + (1 : Nat))).toI == (cellA e4 ((0 : Nat) + (1 : Nat) + (1 : Nat) + (1 : Nat))).toI && ((cellA e1 ((0 : Nat) + (1 : Nat) + (1 : Nat) + (1 : Nat) + (1 : Nat))).toI == (cellA e4 ((0 : Nat) + (1 : Nat) + (1 : Nat) + (1 : Nat) + (1 : Nat))).toI && ((cellA e1 ((0 : Nat) + (1 : Nat) + (1 : Nat) + (1 : Nat) + (1 : Nat) + (1 : Nat))).toI == (cellA e4 ((0 : Nat) + (1 : Nat) + (1 : Nat) + (1 : Nat) + (1 : Nat) + (1 : Nat))).toI && ((cellA e1 ((0 : Nat) + (1 : Nat) + (1 : Nat) + (1 : Nat) + (1 : Nat) + (1 : Nat) + (1 : Nat))).toI == (cellA e4 ((0 : Nat) + (1 : Nat) + (1 : Nat) + (1 : Nat) + (1 : Nat) + (1 : Nat) + (1 : Nat))).toI && true))))))))
            (k .ret (St.of [(4, (.d (.bool false)))] []))
            (k .nrm (St.of [(0, (.d (.sl q 7 es))), (1, (.d (.sl q2 7 es2))), (12, (.d (.int .i64 N))), (13, (.d (.int .i64 (IntKind.i64.wrap ((↑i : Int) + (1 : Int))))))] []))
           )
           none
          )
        )
        none
       )
     )
     (k (.ex 0) (St.of [] []))
    ) := by kernel_rfl
theorem s300a (L n : Nat) (y : DV) (k : Kont) : LB tab sp1 lsp2 L (n+4) h300 c30l0 (S300 .nilsl y 0) k =
    (k (.ex 0) (St.of [] [])) := by kernel_rfl
theorem s300b (L n : Nat) (q : SK) (y : DV) (k : Kont) : LB tab sp1 lsp2 L (n+4) h300 c30l0 (S300 (.sl q 7 []) y 0) k =
    (k (.ex 0) (St.of [] [])) := by kernel_rfl
theorem s360n (L n : Nat) (x y : DV) (k : Kont) : LB tab sp1 lsp2 L (n+4) h360 c36l0 (S360 x y 0 0) k =
    (k (.ex 0) (St.of [] [])) := by kernel_rfl
theorem t36 (L n : Nat) (q q2 : SK) (es es2 : List (List DV)) : FK tab sp1 lsp2 L (n+6) 36 [.sl q 7 es, .sl q2 7 es2] =
    (cond ((↑es.length : Int) != (↑es2.length : Int))
     (some (.bool false))
     (cond (sameL (rows (DV.sl q (7 : Nat) es)) (rows (DV.sl q2 (7 : Nat) es2)))
      (need (LoopOk (LB tab sp1 lsp2 L (n + (6 : Nat)) h360 c36l0) (St.of [(0, (.d (.sl q 7 es))), (1, (.d (.sl q2 7 es2))), (12, (.d (.int .i64 ((↑es.length : Int))))), (13, (.d (.int .i64 ((0 : Int)))))] []) ((.ex 0), (St.of [] [])))
       (some (.bool true))
      )
      (need (LoopOk (LB tab sp1 lsp2 L (n + (6 : Nat)) h360 c36l0) (St.of [(0, (.d (.sl q 7 es))), (1, (.d (.sl q2 7 es2))), (12, (.d (.int .i64 ((↑es.length : Int))))), (13, (.d (.int .i64 ((0 : Int)))))] []) (.ret, (St.of [(4, (.d (.bool false)))] [])))
       (some (.bool false))
      )
     )
    ) := by kernel_rfl
theorem t36a (L n : Nat) (q2 : SK) (es2 : List (List DV)) : FK tab sp1 lsp2 L (n+6) 36 [.nilsl, .sl q2 7 es2] =
    (cond ((0 : Int) != (↑es2.length : Int))
     (some (.bool false))
     (need (LoopOk (LB tab sp1 lsp2 L (n + (6 : Nat)) h360 c36l0) (St.of [(0, (.d .nilsl)), (1, (.d (.sl q2 7 es2))), (12, (.d (.int .i64 ((0 : Int))))), (13, (.d (.int .i64 ((0 : Int)))))] []) ((.ex 0), (St.of [] [])))
      (some (.bool true))
     )
    ) := by kernel_rfl
theorem t36b (L n : Nat) (q2 : SK) (es2 : List (List DV)) : FK tab sp1 lsp2 L (n+6) 36 [.sl q2 7 es2, .nilsl] =
    (cond ((↑es2.length : Int) != (0 : Int))
     (some (.bool false))
     (cond (sameL (rows (DV.sl q2 (7 : Nat) es2)) (rows DV.nilsl))
      (need (LoopOk (LB tab sp1 lsp2 L (n + (6 : Nat)) h360 c36l0) (St.of [(0, (.d (.sl q2 7 es2))), (1, (.d .nilsl)), (12, (.d (.int .i64 ((↑es2.length : Int))))), (13, (.d (.int .i64 ((0 : Int)))))] []) ((.ex 0), (St.of [] [])))
       (some (.bool true))
      )
      (need (LoopOk (LB tab sp1 lsp2 L (n + (6 : Nat)) h360 c36l0) (St.of [(0, (.d (.sl q2 7 es2))), (1, (.d .nilsl)), (12, (.d (.int .i64 ((↑es2.length : Int))))), (13, (.d (.int .i64 ((0 : Int)))))] []) (.ret, (St.of [(4, (.d (.bool false)))] [])))
       (some (.bool false))
      )
     )
    ) := by kernel_rfl
theorem t36c (L n : Nat) : FK tab sp1 lsp2 L (n+6) 36 [.nilsl, .nilsl] =
    (need (LoopOk (LB tab sp1 lsp2 L (n + (6 : Nat)) h360 c36l0) (St.of [(0, (.d .nilsl)), (1, (.d .nilsl)), (12, (.d (.int .i64 ((0 : Int))))), (13, (.d (.int .i64 ((0 : Int)))))] []) ((.ex 0), (St.of [] [])))
     (some (.bool true))
    ) := by kernel_rfl
theorem t30 (L n : Nat) (q q2 : SK) (es es2 : List (List DV)) : FK tab sp1 lsp2 L (n+6) 30 [.sl q 7 es, .sl q2 7 es2] =
    (cond ((↑es.length : Int) != (↑es2.length : Int))
     (some (.bool false))
     (cond (sameL (rows (DV.sl q (7 : Nat) es)) (rows (DV.sl q2 (7 : Nat) es2)))
      (need (LoopOk (LB tab sp1 lsp2 L (n + (6 : Nat)) h300 c30l0) (St.of [(0, (.d (.sl q 7 es))), (1, (.d (.sl q2 7 es2))), (5, (.d (.int .i64 ((0 : Int)))))] []) ((.ex 0), (St.of [] [])))
       (some (.bool true))
      )
      (need (LoopOk (LB tab sp1 lsp2 L (n + (6 : Nat)) h300 c30l0) (St.of [(0, (.d (.sl q 7 es))), (1, (.d (.sl q2 7 es2))), (5, (.d (.int .i64 ((0 : Int)))))] []) (.ret, (St.of [(4, (.d (.bool false)))] [])))
       (some (.bool false))
      )
     )
    ) := by kernel_rfl
theorem t30a (L n : Nat) (q2 : SK) (es2 : List (List DV)) : FK tab sp1 lsp2 L (n+6) 30 [.nilsl, .sl q2 7 es2] =
    (cond ((0 : Int) != (↑es2.length : Int))
     (some (.bool false))
     (need (LoopOk (LB tab sp1 lsp2 L (n + (6 : Nat)) h300 c30l0) (St.of [(0, (.d .nilsl)), (1, (.d (.sl q2 7 es2))), (5, (.d (.int .i64 ((0 : Int)))))] []) ((.ex 0), (St.of [] [])))
      (some (.bool true))
     )
    ) := by kernel_rfl
theorem t30b (L n : Nat) (q2 : SK) (es2 : List (List DV)) : FK tab sp1 lsp2 L (n+6) 30 [.sl q2 7 es2, .nilsl] =
    (cond ((↑es2.length : Int) != (0 : Int))
     (some (.bool false))
     (cond (sameL (rows (DV.sl q2 (7 : Nat) es2)) (rows DV.nilsl))
      (need (LoopOk (LB tab sp1 lsp2 L (n + (6 : Nat)) h300 c30l0) (St.of [(0, (.d (.sl q2 7 es2))), (1, (.d .nilsl)), (5, (.d (.int .i64 ((0 : Int)))))] []) ((.ex 0), (St.of [] [])))
       (some (.bool true))
      )
      (need (LoopOk (LB tab sp1 lsp2 L (n + (6 : Nat)) h300 c30l0) (St.of [(0, (.d (.sl q2 7 es2))), (1, (.d .nilsl)), (5, (.d (.int .i64 ((0 : Int)))))] []) (.ret, (St.of [(4, (.d (.bool false)))] [])))
       (some (.bool false))
      )
     )
    ) := by kernel_rfl
theorem t30c (L n : Nat) : FK tab sp1 lsp2 L (n+6) 30 [.nilsl, .nilsl] =
    (need (LoopOk (LB tab sp1 lsp2 L (n + (6 : Nat)) h300 c30l0) (St.of [(0, (.d .nilsl)), (1, (.d .nilsl)), (5, (.d (.int .i64 ((0 : Int)))))] []) ((.ex 0), (St.of [] [])))
     (some (.bool true))
    ) := by kernel_rfl
abbrev zP : List DV := [.int .i64 0, .int .i64 0, .int .i64 0, .int .i64 0, .int .i64 0, .int .i64 0, .int .i64 0]
theorem step300 (L n : Nat) (q q2 : SK) (es es2 : List (List DV)) (i : Nat) (k : Kont) : LB tab sp1 lsp2 L (n+4) h300 c30l0 (S300 (.sl q 7 es) (.sl q2 7 es2) i) k =
    cond (decide ((i : Int) < (es.length : Int))) (lookK es[(i : Int).toNat]? fun a => cond (okRow zP a) (lookK es2[(i : Int).toNat]? fun b => cond (okRow zP b)
      (cond (!eqRow a b) (k .ret (St.of [(4, .d (.bool false))] [])) (k .nrm (S300 (.sl q 7 es) (.sl q2 7 es2) (IntKind.i64.wrap ((i : Int) + 1))))) none) none) (k (.ex 0) (St.of [] [])) := s300 L n q q2 es es2 i k
theorem step360 (L n : Nat) (q q2 : SK) (es es2 : List (List DV)) (N : Int) (i : Nat) (k : Kont) : LB tab sp1 lsp2 L (n+4) h360 c36l0 (S360 (.sl q 7 es) (.sl q2 7 es2) N i) k =
    cond (decide ((i : Int) < N)) (lookK es[(i : Int).toNat]? fun a => cond (okRow zP a) (lookK es2[(i : Int).toNat]? fun b => cond (okRow zP b)
      (cond (!eqRow a b) (k .ret (St.of [(4, .d (.bool false))] [])) (k .nrm (S360 (.sl q 7 es) (.sl q2 7 es2) N (IntKind.i64.wrap ((i : Int) + 1))))) none) none) (k (.ex 0) (St.of [] [])) := s360 L n q q2 es es2 N i k
theorem loopS {f : St → Kont → Option DV} (S : Int → St) (es es2 : List (List DV)) (hz : ∀ e ∈ es, okRow zP e = true) (hz2 : ∀ e ∈ es2, okRow zP e = true) (hlen : es.length = es2.length) (hl : es.length ≤ 1099511627776)
    (hs : ∀ (i : Nat) (k : Kont), f (S i) k = cond (decide ((i : Int) < (es.length : Int))) (lookK es[(i : Int).toNat]? fun a => cond (okRow zP a) (lookK es2[(i : Int).toNat]? fun b => cond (okRow zP b)
      (cond (!eqRow a b) (k .ret (St.of [(4, .d (.bool false))] [])) (k .nrm (S (IntKind.i64.wrap ((i : Int) + 1))))) none) none) (k (.ex 0) (St.of [] []))) :
    ∀ r, (endS (sameL es es2)).val = some r → LoopOk f (S 0) r := by
  intro r hr
  have key := loop_rounds (f := f) (fun i => S (i : Nat)) (fun i => ((endS (sameL (es.drop i) (es2.drop i))).val).getD (.nrm, St.of [] [])) es.length
    (fun i hi => by
      have hi2 : i < es2.length := by omega
      have he : es[i]? = some es[i] := List.getElem?_eq_getElem hi
      have he2 : es2[i]? = some es2[i] := List.getElem?_eq_getElem hi2
      have hd : sameL (es.drop i) (es2.drop i) = (eqRow es[i] es2[i] && sameL (es.drop (i + 1)) (es2.drop (i + 1))) := by
        rw [List.drop_eq_getElem_cons hi, List.drop_eq_getElem_cons hi2]
        rfl
      have hw : IntKind.i64.wrap ((i : Int) + 1) = ((i + 1 : Nat) : Int) := by rw [wrap_fits] <;> omega
      have h1 := hz es[i] (List.getElem_mem hi)
      have h2 := hz2 es2[i] (List.getElem_mem hi2)
      have hlt : ((i : Int) < (es.length : Int)) := by omega
      simp only [hs, Int.toNat_natCast, he, he2, lookK_some, h1, h2, cond_true, hlt, decide_true, hw, hd]
      cases hq : eqRow es[i] es2[i] with
      | false => right; simp [endS, LR.val]
      | true => left; simp [endS])
    (by
      have h1 : es.drop es.length = [] := by simp
      simp [hs, h1, sameL, endS, LR.val])
  have := key 0 (Nat.zero_le _)
  simp only [List.drop_zero, hr, Option.getD_some] at this
  exact this
def RowsP (s : DV) : Prop := Vm.Rows zP 1099511627776 s
theorem loop300 (L n : Nat) {x y : DV} (hx : RowsP x) (hy : RowsP y) (hlen : (rows x).length = (rows y).length) : ∀ r, (endS (sameL (rows x) (rows y))).val = some r → LoopOk (LB tab sp1 lsp2 L (n+4) h300 c30l0) (S300 x y 0) r := by
  rcases hx with rfl | ⟨q, es, rfl, hz, hl⟩
  · intro r hr
    have : r = (.ex 0, St.of [] []) := (Option.some.inj hr).symm
    subst this
    exact loop_one (by simp) fun k => s300a L n y k
  · rcases hy with rfl | ⟨q2, es2, rfl, hz2, hl2⟩
    · cases es with
      | nil =>
        intro r hr
        have : r = (.ex 0, St.of [] []) := (Option.some.inj hr).symm
        subst this
        exact loop_one (by simp) fun k => s300b L n q _ k
      | cons a l => simp [rows] at hlen
    · exact loopS (fun i => S300 (.sl q 7 es) (.sl q2 7 es2) i) es es2 hz hz2 hlen hl fun i k => step300 L n q q2 es es2 i k
theorem loop360 (L n : Nat) {x y : DV} (hx : RowsP x) (hy : RowsP y) (hlen : (rows x).length = (rows y).length) : ∀ r, (endS (sameL (rows x) (rows y))).val = some r → LoopOk (LB tab sp1 lsp2 L (n+4) h360 c36l0) (S360 x y (rows x).length 0) r := by
  rcases hx with rfl | ⟨q, es, rfl, hz, hl⟩
  · intro r hr
    have : r = (.ex 0, St.of [] []) := (Option.some.inj hr).symm
    subst this
    exact loop_one (by simp) fun k => s360n L n _ y k
  · rcases hy with rfl | ⟨q2, es2, rfl, hz2, hl2⟩
    · cases es with
      | nil =>
        intro r hr
        have : r = (.ex 0, St.of [] []) := (Option.some.inj hr).symm
        subst this
        exact loop_one (by simp) fun k => s360n L n _ _ k
      | cons a l => simp [rows] at hlen
    · exact loopS (fun i => S360 (.sl q 7 es) (.sl q2 7 es2) es.length i) es es2 hz hz2 hlen hl fun i k => step360 L n q q2 es es2 es.length i k
def sameR (a b : List (List DV)) : Bool := a.length == b.length && sameL a b
def sameS : FSpec where
  D ds := ∃ x y, ds = [x, y] ∧ RowsP x ∧ RowsP y
  val ds := match ds with | [x, y] => some (.bool (sameR (rows x) (rows y))) | _ => none
theorem same_end {f : St → Kont → Option DV} {st : St} {b : Bool} (h : ∀ r, (endS b).val = some r → LoopOk f st r) :
    cond b (need (LoopOk f st (.ex 0, St.of [] [])) (some (.bool true))) (need (LoopOk f st (.ret, St.of [(4, .d (.bool false))] [])) (some (.bool false))) = some (DV.bool b) := by
  cases b with
  | true => exact need_pos (h _ rfl)
  | false => exact need_pos (h _ rfl)
theorem same36 : sameS.ok Try.prog 36 := fspec_ok (lsp := lsp2) tab_ok sp1_ok fun ds hD => by
  obtain ⟨x, y, rfl, hx, hy⟩ := hD
  refine ⟨100, 2 + 4 + 2 - 2, ?_⟩
  show _ = some (DV.bool (sameR (rows x) (rows y)))
  have hl := loop360 100 2 hx hy
  by_cases hlen : (rows x).length = (rows y).length
  · have hl := hl hlen
    have hr : sameR (rows x) (rows y) = sameL (rows x) (rows y) := by simp [sameR, hlen]
    rw [hr]
    rcases hx with rfl | ⟨q, es, rfl, hz, _⟩ <;> rcases hy with rfl | ⟨q2, es2, rfl, hz2, _⟩
    · exact (t36c 100 0).trans (need_pos (hl _ rfl))
    · refine (t36a 100 0 q2 es2).trans ?_
      have h0 : ((0 : Int) != (es2.length : Int)) = false := by simp only [rows] at hlen; simp [← hlen]
      rw [h0]
      exact need_pos (hl _ rfl)
    · refine (t36b 100 0 q es).trans ?_
      have h0 : ((es.length : Int) != (0 : Int)) = false := by simp only [rows] at hlen; simp [hlen]
      rw [h0]
      exact same_end hl
    · refine (t36 100 0 q q2 es es2).trans ?_
      have h0 : ((es.length : Int) != (es2.length : Int)) = false := by simp only [rows] at hlen; simp [hlen]
      rw [h0]
      exact same_end hl
  · have hr : sameR (rows x) (rows y) = false := by simp [sameR, hlen]
    rw [hr]
    rcases hx with rfl | ⟨q, es, rfl, hz, _⟩ <;> rcases hy with rfl | ⟨q2, es2, rfl, hz2, _⟩
    · exact absurd rfl hlen
    · refine (t36a 100 0 q2 es2).trans ?_
      have h0 : ((0 : Int) != (es2.length : Int)) = true := by have hlen' : ¬ 0 = es2.length := hlen; simp; omega
      rw [h0]
      rfl
    · refine (t36b 100 0 q es).trans ?_
      have h0 : ((es.length : Int) != (0 : Int)) = true := by have hlen' : es.length ≠ 0 := hlen; simp; rintro rfl; exact hlen' rfl
      rw [h0]
      rfl
    · refine (t36 100 0 q q2 es es2).trans ?_
      have h0 : ((es.length : Int) != (es2.length : Int)) = true := by simp only [rows] at hlen; simp; omega
      rw [h0]
      rfl
theorem same30 : sameS.ok Try.prog 30 := fspec_ok (lsp := lsp2) tab_ok sp1_ok fun ds hD => by
  obtain ⟨x, y, rfl, hx, hy⟩ := hD
  refine ⟨100, 2 + 4 + 2 - 2, ?_⟩
  show _ = some (DV.bool (sameR (rows x) (rows y)))
  have hl := loop300 100 2 hx hy
  by_cases hlen : (rows x).length = (rows y).length
  · have hl := hl hlen
    have hr : sameR (rows x) (rows y) = sameL (rows x) (rows y) := by simp [sameR, hlen]
    rw [hr]
    rcases hx with rfl | ⟨q, es, rfl, hz, _⟩ <;> rcases hy with rfl | ⟨q2, es2, rfl, hz2, _⟩
    · exact (t30c 100 0).trans (need_pos (hl _ rfl))
    · refine (t30a 100 0 q2 es2).trans ?_
      have h0 : ((0 : Int) != (es2.length : Int)) = false := by simp only [rows] at hlen; simp [← hlen]
      rw [h0]
      exact need_pos (hl _ rfl)
    · refine (t30b 100 0 q es).trans ?_
      have h0 : ((es.length : Int) != (0 : Int)) = false := by simp only [rows] at hlen; simp [hlen]
      rw [h0]
      exact same_end hl
    · refine (t30 100 0 q q2 es es2).trans ?_
      have h0 : ((es.length : Int) != (es2.length : Int)) = false := by simp only [rows] at hlen; simp [hlen]
      rw [h0]
      exact same_end hl
  · have hr : sameR (rows x) (rows y) = false := by simp [sameR, hlen]
    rw [hr]
    rcases hx with rfl | ⟨q, es, rfl, hz, _⟩ <;> rcases hy with rfl | ⟨q2, es2, rfl, hz2, _⟩
    · exact absurd rfl hlen
    · refine (t30a 100 0 q2 es2).trans ?_
      have h0 : ((0 : Int) != (es2.length : Int)) = true := by have hlen' : ¬ 0 = es2.length := hlen; simp; omega
      rw [h0]
      rfl
    · refine (t30b 100 0 q es).trans ?_
      have h0 : ((es.length : Int) != (0 : Int)) = true := by have hlen' : es.length ≠ 0 := hlen; simp; rintro rfl; exact hlen' rfl
      rw [h0]
      rfl
    · refine (t30 100 0 q q2 es es2).trans ?_
      have h0 : ((es.length : Int) != (es2.length : Int)) = true := by simp only [rows] at hlen; simp; omega
      rw [h0]
      rfl
theorem sameL_self : ∀ l : List (List DV), sameL l l = true
  | [] => rfl
  | a :: l => by simp [sameL, eqRow, sameL_self l]
theorem sameR_self (l : List (List DV)) : sameR l l = true := by simp [sameR, sameL_self]
noncomputable def sp2 : FuncId → Option FSpec := spAdd 36 sameS (spAdd 30 sameS sp1)
theorem sp2_ok : ∀ f s, sp2 f = some s → s.ok Try.prog f := spAdd_ok same36 (spAdd_ok same30 sp1_ok)

/-! ### every so many ticks -/
def cnt (p s j : Nat) : Nat := (min (j - 4) (s - 1)) / p
theorem cnt_step {p s j : Nat} (hp : 1 ≤ p) (h : 4 ≤ j) (hs : j - 3 < s) : cnt p s (j + 1) = if (j - 3) % p = 0 then cnt p s j + 1 else cnt p s j := by
  unfold cnt
  rw [show min (j + 1 - 4) (s - 1) = (j - 4) + 1 by omega, show min (j - 4) (s - 1) = j - 4 by omega, Nat.succ_div, show j - 3 = j - 4 + 1 by omega]
  by_cases hd : p ∣ j - 4 + 1
  · rw [if_pos hd, if_pos (Nat.mod_eq_zero_of_dvd hd)]
  · rw [if_neg hd, if_neg fun h => hd (Nat.dvd_of_mod_eq_zero h)]
    rfl
theorem cnt_low {p s j : Nat} (h : j < 4) : cnt p s (j + 1) = cnt p s j := by
  unfold cnt
  rw [show min (j + 1 - 4) (s - 1) = 0 by omega, show min (j - 4) (s - 1) = 0 by omega]
theorem cnt_high {p s j : Nat} (h : s ≤ j - 3) (h4 : 4 ≤ j) : cnt p s (j + 1) = cnt p s j := by
  unfold cnt
  rw [show min (j + 1 - 4) (s - 1) = s - 1 by omega, show min (j - 4) (s - 1) = s - 1 by omega]
theorem loop100 (L n : Nat) (p s : Nat) (hp : 1 ≤ p) (hs : 1 ≤ s) (hs2 : s ≤ 100) : LoopOk (LB tab sp1 lsp2 L (n+4) h100 c10l0) (S100 p s 0 (-3)) (.ex 0, E100 p s (((s - 1) / p : Nat) : Int)) := by
  have hw3 : IntKind.i64.wrap ((s : Int) + 3) = (s : Int) + 3 := wrap_fits (by omega) (by omega)
  have hb : ∀ j, cnt p s j ≤ s := fun j => Nat.le_trans (Nat.div_le_self _ _) (by omega)
  have hpe : ((p : Int) = 0) = False := eq_false (by omega)
  have key := loop_rounds (f := LB tab sp1 lsp2 L (n+4) h100 c10l0) (fun j => S100 p s (cnt p s j : Nat) ((j : Int) - 3)) (fun _ => (.ex 0, E100 p s (((s - 1) / p : Nat) : Int))) (s + 6)
    (fun j hj => by
      refine .inl ⟨fun k => ?_, rfl⟩
      have hwt : IntKind.i64.wrap ((j : Int) - 3 + 1) = ((j + 1 : Nat) : Int) - 3 := by rw [wrap_fits] <;> omega
      have hwc : IntKind.i64.wrap ((cnt p s j : Int) + 1) = ((cnt p s j + 1 : Nat) : Int) := by
        have := hb j
        rw [wrap_fits] <;> omega
      have hlt : ((j : Int) - 3 < (s : Int) + 3) = True := eq_true (by omega)
      rw [s100]
      simp only [hw3, hwt, hwc, hlt, decide_true, cond_true, hpe, decide_false, cond_false]
      by_cases h4 : 4 ≤ j
      · by_cases hsj : j - 3 < s
        · have c1 : ((j : Int) - 3 > 0) = True := eq_true (by omega)
          have c2 : ((j : Int) - 3 < (s : Int)) = True := eq_true (by omega)
          have c3 : ((j : Int) - 3).tmod (p : Int) = (((j - 3) % p : Nat) : Int) := by
            rw [show (j : Int) - 3 = ((j - 3 : Nat) : Int) by omega]
            rfl
          simp only [c1, c2, c3, decide_true, cond_true]
          show cond _ (k .nrm (S100 p s ((cnt p s j + 1 : Nat) : Int) (((j + 1 : Nat) : Int) - 3))) (k .nrm (S100 p s (cnt p s j : Nat) (((j + 1 : Nat) : Int) - 3))) = _
          rw [cnt_step hp h4 hsj]
          by_cases hm : (j - 3) % p = 0
          · rw [if_pos hm, hm]
            rfl
          · rw [if_neg hm]
            have : ((((j - 3) % p : Nat) : Int) == 0) = false := by
              rw [beq_eq_false_iff_ne]
              omega
            rw [this]
            rfl
        · have c2 : ((j : Int) - 3 < (s : Int)) = False := eq_false (by omega)
          simp only [c2, decide_false, Bool.cond_self, cond_false]
          rw [cnt_high (by omega) h4]
          rfl
      · have c1 : ((j : Int) - 3 > 0) = False := eq_false (by omega)
        simp only [c1, decide_false, cond_false]
        rw [cnt_low (by omega)]
        rfl)
    (by
      refine ⟨by simp, fun k => ?_⟩
      rw [s100]
      have hlt : (((s + 6 : Nat) : Int) - 3 < (s : Int) + 3) = False := eq_false (by omega)
      simp only [hw3, hlt, decide_false, cond_false]
      have : cnt p s (s + 6) = (s - 1) / p := by
        unfold cnt
        rw [show min (s + 6 - 4) (s - 1) = s - 1 by omega]
      rw [this]
      rfl)
  have := key 0 (Nat.zero_le _)
  have h0 : cnt p s 0 = 0 := by simp [cnt]
  simp only [h0] at this
  exact this
end Go.Proofs.Ytgckkedngcplmaa
