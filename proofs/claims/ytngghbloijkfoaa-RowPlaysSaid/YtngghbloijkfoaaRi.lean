/- RowClass: the run of the statement. No condition. -/
import Derived.Test.YtngghbloijkfoaaRh
namespace Go.Proofs.Ytngghbloijkfoaa
open Go Go.Proofs Go.RowKit Vm
set_option linter.unusedVariables false
set_option linter.unusedSimpArgs false
def l80 : LSpec := fun st => .one (.ex 0) (St.of [(2, st.env 2), (7, st.env 7), (10, st.env 10), (14, st.env 14)] [(53, st.seg 53), (85, st.seg 85), (7, st.seg 7)])
def lm (k : Nat) : Option LSpec := if k = 80 then some l80 else none
theorem l8 (L n : Nat) (es : List (List DV)) (w c : Int) : FK tab spM7 lm L (n+8) 8 [.sla false 7 es, .int .i64 w, .int .i64 c] =
   (bif bif decide ((↑es.length : Int) < (1 : Int)) then true else decide ((↑es.length : Int) > (40 : Int)) then some (DV.bool true)
 else
 need (isPS.D [DV.sla false 7 es])
 (bif !isP es then some (DV.bool true)
 else
 bif decide ((↑es.length : Int) = (0 : Int)) then none
 else
 bif
 decide
 ((0 : Int) ≤
 (IntKind.i64.wrap (↑(BitVec.ofInt IntKind.i64.bits w &&& BitVec.ofInt IntKind.i64.bits (65535 : Int)).toNat : Int)).tmod
 (↑es.length : Int)) then
 lookK
 es[((IntKind.i64.wrap (↑(BitVec.ofInt IntKind.i64.bits w &&& BitVec.ofInt IntKind.i64.bits (65535 : Int)).toNat : Int)).tmod
 (↑es.length : Int)).toNat]?
 fun (e5 : List DV) =>
 bif
 okRow
 [DV.int .i64 0, DV.int .i64 0, DV.int .i64 0, DV.int .i64 0, DV.int .i64 0, DV.int .i64 0, DV.int .i64 0]
 e5 then
 need (clsS.D [DV.sla false 7 es, DV.int .i64 (cellA e5 0).toI, DV.int .i64 c])
 (need (drpS.D [DV.sla false 7 es, DV.int .i64 (cellA e5 0).toI])
 (need (fndS.D [DV.sla false 7 (clsL es (cellA e5 0).toI c), DV.int .i64 (cellA e5 0).toI])
 (bif
 bif clsE es (cellA e5 0).toI c != (0 : Int) then true
 else decide (fI (clsL es (cellA e5 0).toI c) (cellA e5 0).toI < (0 : Int)) then
 some (DV.bool false)
 else
 bif decide ((0 : Int) ≤ fI (clsL es (cellA e5 0).toI c) (cellA e5 0).toI) then
 lookK (clsL es (cellA e5 0).toI c)[(fI (clsL es (cellA e5 0).toI c) (cellA e5 0).toI).toNat]?
 fun (e13 : List DV) =>
 bif
 okRow
 [DV.int .i64 0, DV.int .i64 0, DV.int .i64 0, DV.int .i64 0, DV.int .i64 0, DV.int .i64 0, DV.int .i64 0]
 e13 then
 bif (cellA e13 4).toI != c then some (DV.bool false)
 else
 need (isPS.D [DV.sla false 7 (clsL es (cellA e5 0).toI c)])
 (bif !isP (clsL es (cellA e5 0).toI c) then some (DV.bool false)
 else
 need (drpS.D [DV.sla false 7 (clsL es (cellA e5 0).toI c), DV.int .i64 (cellA e5 0).toI])
 (need
 (LoopOk (LB tab spM7 lm L (n + (8 : Nat)) h80 c8l0)
 (St.of
 [(2, AV.d (DV.int .i64 c)), (7, AV.ptr 7 7 0 0),
 ((8 : Nat), AV.d (DV.sla false 7 (clsL es (cellA e5 0).toI c))),
 ((10 : Nat), AV.d (DV.sla false 7 (dropL es (cellA e5 0).toI))),
 ((14 : Nat), AV.d (DV.sla false 7 (dropL (clsL es (cellA e5 0).toI c) (cellA e5 0).toI))),
 ((17 : Nat),
 AV.d
 (DV.int .i64
 (IntKind.i64.wrap (fI (clsL es (cellA e5 0).toI c) (cellA e5 0).toI + (1 : Int)))))]
 [(46, none), (53, none), (85, none),
 ((7 : Nat),
 some
 (Ob.dat 38 7
 [[DV.int .i64 (cellA e5 0).toI, DV.int .i64 (cellA e5 1).toI, DV.int .i64 (cellA e5 2).toI, DV.int .i64 (cellA e5 3).toI, DV.int .i64 (cellA e5 4).toI, DV.int .i64 (cellA e5 5).toI, DV.int .i64 (cellA e5 6).toI]]))])
 (Ex.ex (0 : Nat),
 St.of
 [(2, AV.d (DV.int .i64 c)), (7, AV.ptr 7 7 0 0),
 ((10 : Nat), AV.d (DV.sla false 7 (dropL es (cellA e5 0).toI))),
 ((14 : Nat),
 AV.d (DV.sla false 7 (dropL (clsL es (cellA e5 0).toI c) (cellA e5 0).toI)))]
 [(53, none), (85, none),
 ((7 : Nat),
 some
 (Ob.dat 38 7
 [[DV.int .i64 (cellA e5 0).toI, DV.int .i64 (cellA e5 1).toI, DV.int .i64 (cellA e5 2).toI, DV.int .i64 (cellA e5 3).toI, DV.int .i64 (cellA e5 4).toI, DV.int .i64 (cellA e5 5).toI, DV.int .i64 (cellA e5 6).toI]]))]))
 (need
 (clsS.D
 [DV.sla false 7 (dropL es (cellA e5 0).toI), DV.int .i64 (cellA e5 0).toI, DV.int .i64 c])
 (need
 (samP.D
 [DV.sla false 7 (dropL es (cellA e5 0).toI),
 DV.sla false 7 (dropL (clsL es (cellA e5 0).toI c) (cellA e5 0).toI)])
 (bif
 bif
 sameP (dropL es (cellA e5 0).toI)
 (dropL (clsL es (cellA e5 0).toI c) (cellA e5 0).toI) then
 clsE (dropL es (cellA e5 0).toI) (cellA e5 0).toI c == (4 : Int)
 else false then
 need (kno7.D []) (some (DV.bool true))
 else some (DV.bool false))))))
 else none
 else none)))
 else none
 else none)) :=
  (show FK tab spM7 lm L (n+8) 8 [.sla false 7 es, .int .i64 w, .int .i64 c] =
 (cond (bif decide ((↑es.length : Int) < (1 : Int)) then true else decide ((↑es.length : Int) > (40 : Int)))
 (some (.bool true))
 (need (FSpec.D (isPS) [(.sla false 7 es)])
 (cond (!isP (rowsA (DV.sla false 7 es)))
 (some (.bool true))
 (cond (decide ((↑es.length : Int) = (0 : Int)))
 none
 (cond (decide ((0 : Int) ≤ (IntKind.i64.wrap (↑(BitVec.ofInt IntKind.i64.bits w &&& BitVec.ofInt IntKind.i64.bits (65535 : Int)).toNat : Int)).tmod (↑es.length : Int)))
 (lookK (es[((IntKind.i64.wrap (↑(BitVec.ofInt IntKind.i64.bits w &&& BitVec.ofInt IntKind.i64.bits (65535 : Int)).toNat : Int)).tmod (↑es.length : Int)).toNat]?)
 fun e5 =>
 (cond (okRow [DV.int .i64 0, DV.int .i64 0, DV.int .i64 0, DV.int .i64 0, DV.int .i64 0, DV.int .i64 0, DV.int .i64 0] e5)
 (need (FSpec.D (clsS) [(.sla false 7 es), (.int .i64 ((cellA e5 0).toI)), (.int .i64 c)])
 (need (FSpec.D (drpS) [(.sla false 7 es), (.int .i64 ((cellA e5 0).toI))])
 (need (FSpec.D (fndS) [(.sla false 7 (clsL (rowsA (DV.sla false 7 es)) (cellA e5 0).toI c)), (.int .i64 ((cellA e5 0).toI))])
 (cond (bif clsE (rowsA (DV.sla false 7 es)) (cellA e5 0).toI c != (0 : Int) then true else decide (fI (rowsA (DV.sla false 7 (clsL (rowsA (DV.sla false 7 es)) (cellA e5 0).toI c))) (cellA e5 0).toI < (0 : Int)))
 (some (.bool false))
 (cond (decide ((0 : Int) ≤ fI (rowsA (DV.sla false 7 (clsL (rowsA (DV.sla false 7 es)) (cellA e5 0).toI c))) (cellA e5 0).toI))
 (lookK ((clsL (rowsA (DV.sla false 7 es)) (cellA e5 0).toI c)[(fI (rowsA (DV.sla false 7 (clsL (rowsA (DV.sla false 7 es)) (cellA e5 0).toI c))) (cellA e5 0).toI).toNat]?)
 fun e13 =>
 (cond (okRow [DV.int .i64 0, DV.int .i64 0, DV.int .i64 0, DV.int .i64 0, DV.int .i64 0, DV.int .i64 0, DV.int .i64 0] e13)
 (cond ((cellA e13 4).toI != c)
 (some (.bool false))
 (need (FSpec.D (isPS) [(.sla false 7 (clsL (rowsA (DV.sla false 7 es)) (cellA e5 0).toI c))])
 (cond (!isP (rowsA (DV.sla false 7 (clsL (rowsA (DV.sla false 7 es)) (cellA e5 0).toI c))))
 (some (.bool false))
 (need (FSpec.D (drpS) [(.sla false 7 (clsL (rowsA (DV.sla false 7 es)) (cellA e5 0).toI c)), (.int .i64 ((cellA e5 0).toI))])
 (need (LoopOk (LB tab spM7 lm L (n + (8 : Nat)) h80 c8l0) (St.of [(2, (.d (.int .i64 c))), (7, (.ptr 7 7 0 0)), (8, (.d (.sla false 7 (clsL (rowsA (DV.sla false 7 es)) (cellA e5 0).toI c)))), (10, (.d (.sla false 7 (dropL (rowsA (DV.sla false 7 es)) (cellA e5 0).toI)))), (14, (.d (.sla false 7 (dropL (rowsA (DV.sla false 7 (clsL (rowsA (DV.sla false 7 es)) (cellA e5 0).toI c))) (cellA e5 0).toI)))), (17, (.d (.int .i64 (IntKind.i64.wrap (fI (rowsA (DV.sla false 7 (clsL (rowsA (DV.sla false 7 es)) (cellA e5 0).toI c))) (cellA e5 0).toI + (1 : Int))))))] [(46, .none), (53, .none), (85, .none), (7, (.some (.dat 38 7 [[(.int .i64 ((cellA e5 0).toI)), (.int .i64 ((cellA e5 1).toI)), (.int .i64 ((cellA e5 2).toI)), (.int .i64 ((cellA e5 3).toI)), (.int .i64 ((cellA e5 4).toI)), (.int .i64 ((cellA e5 5).toI)), (.int .i64 ((cellA e5 6).toI))]])))]) ((.ex 0), (St.of [(2, (.d (.int .i64 c))), (7, (.ptr 7 7 0 0)), (10, (.d (.sla false 7 (dropL (rowsA (DV.sla false 7 es)) (cellA e5 0).toI)))), (14, (.d (.sla false 7 (dropL (rowsA (DV.sla false 7 (clsL (rowsA (DV.sla false 7 es)) (cellA e5 0).toI c))) (cellA e5 0).toI))))] [(53, .none), (85, .none), (7, (.some (.dat 38 7 [[(.int .i64 ((cellA e5 0).toI)), (.int .i64 ((cellA e5 1).toI)), (.int .i64 ((cellA e5 2).toI)), (.int .i64 ((cellA e5 3).toI)), (.int .i64 ((cellA e5 4).toI)), (.int .i64 ((cellA e5 5).toI)), (.int .i64 ((cellA e5 6).toI))]])))])))
 (need (FSpec.D (clsS) [(.sla false 7 (dropL (rowsA (DV.sla false 7 es)) (cellA e5 0).toI)), (.int .i64 ((cellA e5 0).toI)), (.int .i64 c)])
 (need (FSpec.D (samP) [(.sla false 7 (dropL (rowsA (DV.sla false 7 es)) (cellA e5 0).toI)), (.sla false 7 (dropL (rowsA (DV.sla false 7 (clsL (rowsA (DV.sla false 7 es)) (cellA e5 0).toI c))) (cellA e5 0).toI))])
 (cond (bif sameP (rowsA (DV.sla false 7 (dropL (rowsA (DV.sla false 7 es)) (cellA e5 0).toI))) (rowsA (DV.sla false 7 (dropL (rowsA (DV.sla false 7 (clsL (rowsA (DV.sla false 7 es)) (cellA e5 0).toI c))) (cellA e5 0).toI))) then clsE (rowsA (DV.sla false 7 (dropL (rowsA (DV.sla false 7 es)) (cellA e5 0).toI))) (cellA e5 0).toI c == (4 : Int) else false)
 (need (FSpec.D (kno7) [])
 (some (.bool true)))
 (some (.bool false))))))))))
 none))
 none)))))
 none))
 none))))) from by kernel_rfl).trans (by first | rfl | (simp only [decide_true, decide_false, eq_self, and_true, true_and, and_self, cond_true, cond_false, Nat.le_refl, Int.le_refl, Option.getD_some, Option.getD_none, Int.toNat_natCast, List.take_length, List.drop_zero, Nat.zero_add, List.nil_append, List.all_nil, List.append_nil, Bool.true_and, Bool.and_true, rowsA_sla, rowsA_sl, rowsA_nil, minus_zero, nat_le_cast, nat_nonneg, Option.isSome_some, Option.isSome_none, Bool.false_eq_true, false_and, and_false, if_true, if_false, implies_true, Int.toNat_zero, Bool.not_false, Bool.not_true, bne_self_eq_false]; done) | (simp only [decide_true, decide_false, eq_self, and_true, true_and, and_self, cond_true, cond_false, Nat.le_refl, Int.le_refl, Option.getD_some, Option.getD_none, Int.toNat_natCast, List.take_length, List.drop_zero, Nat.zero_add, List.nil_append, List.all_nil, List.append_nil, Bool.true_and, Bool.and_true, rowsA_sla, rowsA_sl, rowsA_nil, minus_zero, nat_le_cast, nat_nonneg, Option.isSome_some, Option.isSome_none, Bool.false_eq_true, false_and, and_false, if_true, if_false, implies_true, Int.toNat_zero, Bool.not_false, Bool.not_true, bne_self_eq_false]; rfl))
end Go.Proofs.Ytngghbloijkfoaa
