/- MostBounds: the run of the statement. No condition. -/
import Derived.Test.YtakapalpcglfaaaMe
namespace Go.Proofs.Ytakapalpcglfaaa
open Go Go.Proofs Go.RowKit Vm
set_option linter.unusedVariables false
set_option linter.unusedSimpArgs false
def ofG : FSpec where
  D ds := ∃ x y u v f t c, ds = [.agg [x, y, u, v], .int .i64 f, .int .i64 t, .int .i64 c] ∧ Sl 3 x ∧ Sl 1 y ∧ Sl 1 u ∧ Sl 1 v ∧ BK (rowsA x) (rowsA y) (rowsA u) (rowsA v)
  val ds := match ds with | [.agg [x, y, u, v], .int _ f, .int _ t, .int _ c] => some (.int .i64 (ofI (rowsA x) (rowsA y) (rowsA u) (rowsA v) f t c)) | _ => none
noncomputable def spBo : FuncId → Option FSpec := spAdd 24 trueS (spAdd 22 ofG (spAdd 18 roomS noSp))
theorem t9 (n : Nat) (bal res bil mul pos c : Int) : FK tab spBo lsp0 40 (n+12) 9 [.int .i64 bal, .int .i64 res, .int .i64 bil, .int .i64 mul, .int .i64 pos, .int .i64 c] =
   (bif
 bif
 bif
 bif
 bif
 bif
 bif
 bif
 bif
 bif
 bif bif decide (bal < (0 : Int)) then true else decide (bal > (1000 : Int)) then true
 else decide (res < (0 : Int)) then
 true
 else decide (res > (1000 : Int)) then
 true
 else decide (bil < (-1 : Int)) then
 true
 else decide (bil > (1000 : Int)) then
 true
 else decide (mul < (-1 : Int)) then
 true
 else decide (mul > (1000 : Int)) then
 true
 else decide (pos < (-1000 : Int)) then
 true
 else decide (pos > (1000 : Int)) then
 true
 else decide (c < (1 : Int)) then
 true
 else decide (c > (3 : Int)) then
 some (DV.bool true)
 else
 need (roomS.D [DV.agg [DV.int .i64 bal, DV.int .i64 0, DV.int .i64 res], DV.int .i64 c])
 (bif decide (bil ≥ (0 : Int)) then
 bif decide (mul ≥ (0 : Int)) then
 need
 (ofG.D
 [DV.agg
 [DV.sl SK.ro 3
 [[DV.int .i64 bal, DV.int .i64 0, DV.int .i64 res],
 [DV.int .i64 0, DV.int .i64 0, DV.int .i64 0],
 [DV.int .i64 0, DV.int .i64 0, DV.int .i64 0]],
 DV.sl SK.ro 1
 [[DV.sla false 1 [[DV.int .i64 (-1 : Int)], [DV.int .i64 bil], [DV.int .i64 (-1 : Int)]]],
 [DV.sla false 1 [[DV.int .i64 (-1 : Int)], [DV.int .i64 (-1 : Int)], [DV.int .i64 (-1 : Int)]]],
 [DV.sla false 1 [[DV.int .i64 (-1 : Int)], [DV.int .i64 (-1 : Int)], [DV.int .i64 (-1 : Int)]]]],
 DV.sl SK.ro 1 [[DV.int .i64 mul], [DV.int .i64 (-1 : Int)], [DV.int .i64 (-1 : Int)]],
 DV.sl SK.ro 1
 [[DV.sla false 1 [[DV.int .i64 0], [DV.int .i64 pos], [DV.int .i64 0]]],
 [DV.sla false 1
 [[DV.int .i64 (IntKind.i64.wrap ((0 : Int) - pos))], [DV.int .i64 0], [DV.int .i64 0]]],
 [DV.sla false 1 [[DV.int .i64 0], [DV.int .i64 0], [DV.int .i64 0]]]]], DV.int .i64 0, DV.int .i64 1, DV.int .i64 c])
 (bif
 ofI
 (List.take (3 : Nat)
 (([[DV.int .i64 0, DV.int .i64 0, DV.int .i64 0],
 [DV.int .i64 0, DV.int .i64 0, DV.int .i64 0],
 [DV.int .i64 0, DV.int .i64 0, DV.int .i64 0]].set
 (0 : Nat) [DV.int .i64 bal, DV.int .i64 0, DV.int .i64 0]).set
 (0 : Nat) [DV.int .i64 bal, DV.int .i64 0, DV.int .i64 res]))
 [[cellS (DV.sl SK.ro 1 [[DV.int .i64 (-1 : Int)], [DV.int .i64 (-1 : Int)], [DV.int .i64 (-1 : Int)]])].reverse,
 [cellS
 (DV.sl SK.ro 1
 [[DV.int .i64 (-1 : Int)], [DV.int .i64 (-1 : Int)], [DV.int .i64 (-1 : Int)]])].reverse,
 [cellS
 (DV.sl SK.ro 1
 (List.take (3 : Nat)
 ([[DV.int .i64 (-1 : Int)], [DV.int .i64 (-1 : Int)], [DV.int .i64 (-1 : Int)]].set (1 : Nat)
 [DV.int .i64 bil])))].reverse].reverse
 (List.take (3 : Nat)
 ([[DV.int .i64 (-1 : Int)], [DV.int .i64 (-1 : Int)], [DV.int .i64 (-1 : Int)]].set (0 : Nat)
 [DV.int .i64 mul]))
 [[cellS (DV.sl SK.ro 1 [[DV.int .i64 0], [DV.int .i64 0], [DV.int .i64 0]])].reverse,
 [cellS
 (DV.sl SK.ro 1
 (List.take (3 : Nat)
 ([[DV.int .i64 0], [DV.int .i64 0], [DV.int .i64 0]].set (0 : Nat)
 [DV.int .i64 (IntKind.i64.wrap ((0 : Int) - pos))])))].reverse,
 [cellS
 (DV.sl SK.ro 1
 (List.take (3 : Nat)
 ([[DV.int .i64 0], [DV.int .i64 0], [DV.int .i64 0]].set (1 : Nat)
 [DV.int .i64 pos])))].reverse].reverse
 (0 : Int) (1 : Int) c ==
 if
 (if
 IntKind.i64.wrap (mul - pos) <
 if IntKind.i64.wrap (bil - pos) < roomI bal (0 : Int) res c then IntKind.i64.wrap (bil - pos)
 else roomI bal (0 : Int) res c then
 IntKind.i64.wrap (mul - pos)
 else
 if IntKind.i64.wrap (bil - pos) < roomI bal (0 : Int) res c then IntKind.i64.wrap (bil - pos)
 else roomI bal (0 : Int) res c) >
 (0 : Int) then
 if
 IntKind.i64.wrap (mul - pos) <
 if IntKind.i64.wrap (bil - pos) < roomI bal (0 : Int) res c then IntKind.i64.wrap (bil - pos)
 else roomI bal (0 : Int) res c then
 IntKind.i64.wrap (mul - pos)
 else if IntKind.i64.wrap (bil - pos) < roomI bal (0 : Int) res c then IntKind.i64.wrap (bil - pos) else roomI bal (0 : Int) res c
 else (0 : Int) then
 need (trueS.D []) (some (DV.bool true))
 else some (DV.bool false))
 else
 need
 (ofG.D
 [DV.agg
 [DV.sl SK.ro 3
 [[DV.int .i64 bal, DV.int .i64 0, DV.int .i64 res],
 [DV.int .i64 0, DV.int .i64 0, DV.int .i64 0],
 [DV.int .i64 0, DV.int .i64 0, DV.int .i64 0]],
 DV.sl SK.ro 1
 [[DV.sla false 1 [[DV.int .i64 (-1 : Int)], [DV.int .i64 bil], [DV.int .i64 (-1 : Int)]]],
 [DV.sla false 1 [[DV.int .i64 (-1 : Int)], [DV.int .i64 (-1 : Int)], [DV.int .i64 (-1 : Int)]]],
 [DV.sla false 1 [[DV.int .i64 (-1 : Int)], [DV.int .i64 (-1 : Int)], [DV.int .i64 (-1 : Int)]]]],
 DV.sl SK.ro 1 [[DV.int .i64 mul], [DV.int .i64 (-1 : Int)], [DV.int .i64 (-1 : Int)]],
 DV.sl SK.ro 1
 [[DV.sla false 1 [[DV.int .i64 0], [DV.int .i64 pos], [DV.int .i64 0]]],
 [DV.sla false 1
 [[DV.int .i64 (IntKind.i64.wrap ((0 : Int) - pos))], [DV.int .i64 0], [DV.int .i64 0]]],
 [DV.sla false 1 [[DV.int .i64 0], [DV.int .i64 0], [DV.int .i64 0]]]]], DV.int .i64 0, DV.int .i64 1, DV.int .i64 c])
 (bif
 ofI
 (List.take (3 : Nat)
 (([[DV.int .i64 0, DV.int .i64 0, DV.int .i64 0],
 [DV.int .i64 0, DV.int .i64 0, DV.int .i64 0],
 [DV.int .i64 0, DV.int .i64 0, DV.int .i64 0]].set
 (0 : Nat) [DV.int .i64 bal, DV.int .i64 0, DV.int .i64 0]).set
 (0 : Nat) [DV.int .i64 bal, DV.int .i64 0, DV.int .i64 res]))
 [[cellS (DV.sl SK.ro 1 [[DV.int .i64 (-1 : Int)], [DV.int .i64 (-1 : Int)], [DV.int .i64 (-1 : Int)]])].reverse,
 [cellS
 (DV.sl SK.ro 1
 [[DV.int .i64 (-1 : Int)], [DV.int .i64 (-1 : Int)], [DV.int .i64 (-1 : Int)]])].reverse,
 [cellS
 (DV.sl SK.ro 1
 (List.take (3 : Nat)
 ([[DV.int .i64 (-1 : Int)], [DV.int .i64 (-1 : Int)], [DV.int .i64 (-1 : Int)]].set (1 : Nat)
 [DV.int .i64 bil])))].reverse].reverse
 (List.take (3 : Nat)
 ([[DV.int .i64 (-1 : Int)], [DV.int .i64 (-1 : Int)], [DV.int .i64 (-1 : Int)]].set (0 : Nat)
 [DV.int .i64 mul]))
 [[cellS (DV.sl SK.ro 1 [[DV.int .i64 0], [DV.int .i64 0], [DV.int .i64 0]])].reverse,
 [cellS
 (DV.sl SK.ro 1
 (List.take (3 : Nat)
 ([[DV.int .i64 0], [DV.int .i64 0], [DV.int .i64 0]].set (0 : Nat)
 [DV.int .i64 (IntKind.i64.wrap ((0 : Int) - pos))])))].reverse,
 [cellS
 (DV.sl SK.ro 1
 (List.take (3 : Nat)
 ([[DV.int .i64 0], [DV.int .i64 0], [DV.int .i64 0]].set (1 : Nat)
 [DV.int .i64 pos])))].reverse].reverse
 (0 : Int) (1 : Int) c ==
 if
 (if IntKind.i64.wrap (bil - pos) < roomI bal (0 : Int) res c then IntKind.i64.wrap (bil - pos) else roomI bal (0 : Int) res c) >
 (0 : Int) then
 if IntKind.i64.wrap (bil - pos) < roomI bal (0 : Int) res c then IntKind.i64.wrap (bil - pos) else roomI bal (0 : Int) res c
 else (0 : Int) then
 need (trueS.D []) (some (DV.bool true))
 else some (DV.bool false))
 else
 bif decide (mul ≥ (0 : Int)) then
 need
 (ofG.D
 [DV.agg
 [DV.sl SK.ro 3
 [[DV.int .i64 bal, DV.int .i64 0, DV.int .i64 res],
 [DV.int .i64 0, DV.int .i64 0, DV.int .i64 0],
 [DV.int .i64 0, DV.int .i64 0, DV.int .i64 0]],
 DV.sl SK.ro 1
 [[DV.sla false 1 [[DV.int .i64 (-1 : Int)], [DV.int .i64 bil], [DV.int .i64 (-1 : Int)]]],
 [DV.sla false 1 [[DV.int .i64 (-1 : Int)], [DV.int .i64 (-1 : Int)], [DV.int .i64 (-1 : Int)]]],
 [DV.sla false 1 [[DV.int .i64 (-1 : Int)], [DV.int .i64 (-1 : Int)], [DV.int .i64 (-1 : Int)]]]],
 DV.sl SK.ro 1 [[DV.int .i64 mul], [DV.int .i64 (-1 : Int)], [DV.int .i64 (-1 : Int)]],
 DV.sl SK.ro 1
 [[DV.sla false 1 [[DV.int .i64 0], [DV.int .i64 pos], [DV.int .i64 0]]],
 [DV.sla false 1
 [[DV.int .i64 (IntKind.i64.wrap ((0 : Int) - pos))], [DV.int .i64 0], [DV.int .i64 0]]],
 [DV.sla false 1 [[DV.int .i64 0], [DV.int .i64 0], [DV.int .i64 0]]]]], DV.int .i64 0, DV.int .i64 1, DV.int .i64 c])
 (bif
 ofI
 (List.take (3 : Nat)
 (([[DV.int .i64 0, DV.int .i64 0, DV.int .i64 0],
 [DV.int .i64 0, DV.int .i64 0, DV.int .i64 0],
 [DV.int .i64 0, DV.int .i64 0, DV.int .i64 0]].set
 (0 : Nat) [DV.int .i64 bal, DV.int .i64 0, DV.int .i64 0]).set
 (0 : Nat) [DV.int .i64 bal, DV.int .i64 0, DV.int .i64 res]))
 [[cellS (DV.sl SK.ro 1 [[DV.int .i64 (-1 : Int)], [DV.int .i64 (-1 : Int)], [DV.int .i64 (-1 : Int)]])].reverse,
 [cellS
 (DV.sl SK.ro 1
 [[DV.int .i64 (-1 : Int)], [DV.int .i64 (-1 : Int)], [DV.int .i64 (-1 : Int)]])].reverse,
 [cellS
 (DV.sl SK.ro 1
 (List.take (3 : Nat)
 ([[DV.int .i64 (-1 : Int)], [DV.int .i64 (-1 : Int)], [DV.int .i64 (-1 : Int)]].set (1 : Nat)
 [DV.int .i64 bil])))].reverse].reverse
 (List.take (3 : Nat)
 ([[DV.int .i64 (-1 : Int)], [DV.int .i64 (-1 : Int)], [DV.int .i64 (-1 : Int)]].set (0 : Nat)
 [DV.int .i64 mul]))
 [[cellS (DV.sl SK.ro 1 [[DV.int .i64 0], [DV.int .i64 0], [DV.int .i64 0]])].reverse,
 [cellS
 (DV.sl SK.ro 1
 (List.take (3 : Nat)
 ([[DV.int .i64 0], [DV.int .i64 0], [DV.int .i64 0]].set (0 : Nat)
 [DV.int .i64 (IntKind.i64.wrap ((0 : Int) - pos))])))].reverse,
 [cellS
 (DV.sl SK.ro 1
 (List.take (3 : Nat)
 ([[DV.int .i64 0], [DV.int .i64 0], [DV.int .i64 0]].set (1 : Nat)
 [DV.int .i64 pos])))].reverse].reverse
 (0 : Int) (1 : Int) c ==
 if
 (if IntKind.i64.wrap (mul - pos) < roomI bal (0 : Int) res c then IntKind.i64.wrap (mul - pos) else roomI bal (0 : Int) res c) >
 (0 : Int) then
 if IntKind.i64.wrap (mul - pos) < roomI bal (0 : Int) res c then IntKind.i64.wrap (mul - pos) else roomI bal (0 : Int) res c
 else (0 : Int) then
 need (trueS.D []) (some (DV.bool true))
 else some (DV.bool false))
 else
 need
 (ofG.D
 [DV.agg
 [DV.sl SK.ro 3
 [[DV.int .i64 bal, DV.int .i64 0, DV.int .i64 res],
 [DV.int .i64 0, DV.int .i64 0, DV.int .i64 0],
 [DV.int .i64 0, DV.int .i64 0, DV.int .i64 0]],
 DV.sl SK.ro 1
 [[DV.sla false 1 [[DV.int .i64 (-1 : Int)], [DV.int .i64 bil], [DV.int .i64 (-1 : Int)]]],
 [DV.sla false 1 [[DV.int .i64 (-1 : Int)], [DV.int .i64 (-1 : Int)], [DV.int .i64 (-1 : Int)]]],
 [DV.sla false 1 [[DV.int .i64 (-1 : Int)], [DV.int .i64 (-1 : Int)], [DV.int .i64 (-1 : Int)]]]],
 DV.sl SK.ro 1 [[DV.int .i64 mul], [DV.int .i64 (-1 : Int)], [DV.int .i64 (-1 : Int)]],
 DV.sl SK.ro 1
 [[DV.sla false 1 [[DV.int .i64 0], [DV.int .i64 pos], [DV.int .i64 0]]],
 [DV.sla false 1
 [[DV.int .i64 (IntKind.i64.wrap ((0 : Int) - pos))], [DV.int .i64 0], [DV.int .i64 0]]],
 [DV.sla false 1 [[DV.int .i64 0], [DV.int .i64 0], [DV.int .i64 0]]]]], DV.int .i64 0, DV.int .i64 1, DV.int .i64 c])
 (bif
 ofI
 (List.take (3 : Nat)
 (([[DV.int .i64 0, DV.int .i64 0, DV.int .i64 0],
 [DV.int .i64 0, DV.int .i64 0, DV.int .i64 0],
 [DV.int .i64 0, DV.int .i64 0, DV.int .i64 0]].set
 (0 : Nat) [DV.int .i64 bal, DV.int .i64 0, DV.int .i64 0]).set
 (0 : Nat) [DV.int .i64 bal, DV.int .i64 0, DV.int .i64 res]))
 [[cellS (DV.sl SK.ro 1 [[DV.int .i64 (-1 : Int)], [DV.int .i64 (-1 : Int)], [DV.int .i64 (-1 : Int)]])].reverse,
 [cellS
 (DV.sl SK.ro 1
 [[DV.int .i64 (-1 : Int)], [DV.int .i64 (-1 : Int)], [DV.int .i64 (-1 : Int)]])].reverse,
 [cellS
 (DV.sl SK.ro 1
 (List.take (3 : Nat)
 ([[DV.int .i64 (-1 : Int)], [DV.int .i64 (-1 : Int)], [DV.int .i64 (-1 : Int)]].set (1 : Nat)
 [DV.int .i64 bil])))].reverse].reverse
 (List.take (3 : Nat)
 ([[DV.int .i64 (-1 : Int)], [DV.int .i64 (-1 : Int)], [DV.int .i64 (-1 : Int)]].set (0 : Nat)
 [DV.int .i64 mul]))
 [[cellS (DV.sl SK.ro 1 [[DV.int .i64 0], [DV.int .i64 0], [DV.int .i64 0]])].reverse,
 [cellS
 (DV.sl SK.ro 1
 (List.take (3 : Nat)
 ([[DV.int .i64 0], [DV.int .i64 0], [DV.int .i64 0]].set (0 : Nat)
 [DV.int .i64 (IntKind.i64.wrap ((0 : Int) - pos))])))].reverse,
 [cellS
 (DV.sl SK.ro 1
 (List.take (3 : Nat)
 ([[DV.int .i64 0], [DV.int .i64 0], [DV.int .i64 0]].set (1 : Nat)
 [DV.int .i64 pos])))].reverse].reverse
 (0 : Int) (1 : Int) c ==
 if roomI bal (0 : Int) res c > (0 : Int) then roomI bal (0 : Int) res c else (0 : Int) then
 need (trueS.D []) (some (DV.bool true))
 else some (DV.bool false)))) :=
  (show FK tab spBo lsp0 40 (n+12) 9 [.int .i64 bal, .int .i64 res, .int .i64 bil, .int .i64 mul, .int .i64 pos, .int .i64 c] =
 (cond (bif bif bif bif bif bif bif bif bif bif bif decide (bal < (0 : Int)) then true else decide (bal > (1000 : Int)) then true else decide (res < (0 : Int)) then true else decide (res > (1000 : Int)) then true else decide (bil < (-1 : Int)) then true else decide (bil > (1000 : Int)) then true else decide (mul < (-1 : Int)) then true else decide (mul > (1000 : Int)) then true else decide (pos < (-1000 : Int)) then true else decide (pos > (1000 : Int)) then true else decide (c < (1 : Int)) then true else decide (c > (3 : Int)))
 (some (.bool true))
 (need (FSpec.D (roomS) [(.agg [(.int .i64 bal), (.int .i64 ((0 : Int))), (.int .i64 res)]), (.int .i64 c)])
 (cond (decide (bil ≥ (0 : Int)))
 (cond (decide (mul ≥ (0 : Int)))
 (need (FSpec.D (ofG) [(.agg [(.sl (SK.ro) 3 [[(.int .i64 bal), (.int .i64 ((0 : Int))), (.int .i64 res)], [(.int .i64 ((0 : Int))), (.int .i64 ((0 : Int))), (.int .i64 ((0 : Int)))], [(.int .i64 ((0 : Int))), (.int .i64 ((0 : Int))), (.int .i64 ((0 : Int)))]]), (.sl (SK.ro) 1 [[(.sla false 1 [[(.int .i64 ((-1 : Int)))], [(.int .i64 bil)], [(.int .i64 ((-1 : Int)))]])], [(.sla false 1 [[(.int .i64 ((-1 : Int)))], [(.int .i64 ((-1 : Int)))], [(.int .i64 ((-1 : Int)))]])], [(.sla false 1 [[(.int .i64 ((-1 : Int)))], [(.int .i64 ((-1 : Int)))], [(.int .i64 ((-1 : Int)))]])]]), (.sl (SK.ro) 1 [[(.int .i64 mul)], [(.int .i64 ((-1 : Int)))], [(.int .i64 ((-1 : Int)))]]), (.sl (SK.ro) 1 [[(.sla false 1 [[(.int .i64 ((0 : Int)))], [(.int .i64 pos)], [(.int .i64 ((0 : Int)))]])], [(.sla false 1 [[(.int .i64 (IntKind.i64.wrap ((0 : Int) - pos)))], [(.int .i64 ((0 : Int)))], [(.int .i64 ((0 : Int)))]])], [(.sla false 1 [[(.int .i64 ((0 : Int)))], [(.int .i64 ((0 : Int)))], [(.int .i64 ((0 : Int)))]])]])]), (.int .i64 ((0 : Int))), (.int .i64 ((1 : Int))), (.int .i64 c)])
 (cond (ofI (rowsA (DV.sl SK.ro 3 (List.take (3 : Nat) (([[DV.int .i64 0, DV.int .i64 0, DV.int .i64 0], [DV.int .i64 0, DV.int .i64 0, DV.int .i64 0], [DV.int .i64 0, DV.int .i64 0, DV.int .i64 0]].set (0 : Nat) [DV.int .i64 bal, DV.int .i64 0, DV.int .i64 0]).set (0 : Nat) [DV.int .i64 bal, DV.int .i64 0, DV.int .i64 res])))) (rowsA (DV.sl SK.ro 1 [[cellS (DV.sl SK.ro 1 [[DV.int .i64 (-1 : Int)], [DV.int .i64 (-1 : Int)], [DV.int .i64 (-1 : Int)]])].reverse, [cellS (DV.sl SK.ro 1 [[DV.int .i64 (-1 : Int)], [DV.int .i64 (-1 : Int)], [DV.int .i64 (-1 : Int)]])].reverse, [cellS (DV.sl SK.ro 1 (List.take (3 : Nat) ([[DV.int .i64 (-1 : Int)], [DV.int .i64 (-1 : Int)], [DV.int .i64 (-1 : Int)]].set (1 : Nat) [DV.int .i64 bil])))].reverse].reverse)) (rowsA (DV.sl SK.ro 1 (List.take (3 : Nat) ([[DV.int .i64 (-1 : Int)], [DV.int .i64 (-1 : Int)], [DV.int .i64 (-1 : Int)]].set (0 : Nat) [DV.int .i64 mul])))) (rowsA (DV.sl SK.ro 1 [[cellS (DV.sl SK.ro 1 [[DV.int .i64 0], [DV.int .i64 0], [DV.int .i64 0]])].reverse, [cellS (DV.sl SK.ro 1 (List.take (3 : Nat) ([[DV.int .i64 0], [DV.int .i64 0], [DV.int .i64 0]].set (0 : Nat) [DV.int .i64 (IntKind.i64.wrap ((0 : Int) - pos))])))].reverse, [cellS (DV.sl SK.ro 1 (List.take (3 : Nat) ([[DV.int .i64 0], [DV.int .i64 0], [DV.int .i64 0]].set (1 : Nat) [DV.int .i64 pos])))].reverse].reverse)) (0 : Int) (1 : Int) c == if (if IntKind.i64.wrap (mul - pos) < if IntKind.i64.wrap (bil - pos) < roomI bal (0 : Int) res c then IntKind.i64.wrap (bil - pos) else roomI bal (0 : Int) res c then IntKind.i64.wrap (mul - pos) else if IntKind.i64.wrap (bil - pos) < roomI bal (0 : Int) res c then IntKind.i64.wrap (bil - pos) else roomI bal (0 : Int) res c) > (0 : Int) then if IntKind.i64.wrap (mul - pos) < if IntKind.i64.wrap (bil - pos) < roomI bal (0 : Int) res c then IntKind.i64.wrap (bil - pos) else roomI bal (0 : Int) res c then IntKind.i64.wrap (mul - pos) else if IntKind.i64.wrap (bil - pos) < roomI bal (0 : Int) res c then IntKind.i64.wrap (bil - pos) else roomI bal (0 : Int) res c else (0 : Int))
 (need (FSpec.D (trueS) [])
 (some (.bool true)))
 (some (.bool false))))
 (need (FSpec.D (ofG) [(.agg [(.sl (SK.ro) 3 [[(.int .i64 bal), (.int .i64 ((0 : Int))), (.int .i64 res)], [(.int .i64 ((0 : Int))), (.int .i64 ((0 : Int))), (.int .i64 ((0 : Int)))], [(.int .i64 ((0 : Int))), (.int .i64 ((0 : Int))), (.int .i64 ((0 : Int)))]]), (.sl (SK.ro) 1 [[(.sla false 1 [[(.int .i64 ((-1 : Int)))], [(.int .i64 bil)], [(.int .i64 ((-1 : Int)))]])], [(.sla false 1 [[(.int .i64 ((-1 : Int)))], [(.int .i64 ((-1 : Int)))], [(.int .i64 ((-1 : Int)))]])], [(.sla false 1 [[(.int .i64 ((-1 : Int)))], [(.int .i64 ((-1 : Int)))], [(.int .i64 ((-1 : Int)))]])]]), (.sl (SK.ro) 1 [[(.int .i64 mul)], [(.int .i64 ((-1 : Int)))], [(.int .i64 ((-1 : Int)))]]), (.sl (SK.ro) 1 [[(.sla false 1 [[(.int .i64 ((0 : Int)))], [(.int .i64 pos)], [(.int .i64 ((0 : Int)))]])], [(.sla false 1 [[(.int .i64 (IntKind.i64.wrap ((0 : Int) - pos)))], [(.int .i64 ((0 : Int)))], [(.int .i64 ((0 : Int)))]])], [(.sla false 1 [[(.int .i64 ((0 : Int)))], [(.int .i64 ((0 : Int)))], [(.int .i64 ((0 : Int)))]])]])]), (.int .i64 ((0 : Int))), (.int .i64 ((1 : Int))), (.int .i64 c)])
 (cond (ofI (rowsA (DV.sl SK.ro 3 (List.take (3 : Nat) (([[DV.int .i64 0, DV.int .i64 0, DV.int .i64 0], [DV.int .i64 0, DV.int .i64 0, DV.int .i64 0], [DV.int .i64 0, DV.int .i64 0, DV.int .i64 0]].set (0 : Nat) [DV.int .i64 bal, DV.int .i64 0, DV.int .i64 0]).set (0 : Nat) [DV.int .i64 bal, DV.int .i64 0, DV.int .i64 res])))) (rowsA (DV.sl SK.ro 1 [[cellS (DV.sl SK.ro 1 [[DV.int .i64 (-1 : Int)], [DV.int .i64 (-1 : Int)], [DV.int .i64 (-1 : Int)]])].reverse, [cellS (DV.sl SK.ro 1 [[DV.int .i64 (-1 : Int)], [DV.int .i64 (-1 : Int)], [DV.int .i64 (-1 : Int)]])].reverse, [cellS (DV.sl SK.ro 1 (List.take (3 : Nat) ([[DV.int .i64 (-1 : Int)], [DV.int .i64 (-1 : Int)], [DV.int .i64 (-1 : Int)]].set (1 : Nat) [DV.int .i64 bil])))].reverse].reverse)) (rowsA (DV.sl SK.ro 1 (List.take (3 : Nat) ([[DV.int .i64 (-1 : Int)], [DV.int .i64 (-1 : Int)], [DV.int .i64 (-1 : Int)]].set (0 : Nat) [DV.int .i64 mul])))) (rowsA (DV.sl SK.ro 1 [[cellS (DV.sl SK.ro 1 [[DV.int .i64 0], [DV.int .i64 0], [DV.int .i64 0]])].reverse, [cellS (DV.sl SK.ro 1 (List.take (3 : Nat) ([[DV.int .i64 0], [DV.int .i64 0], [DV.int .i64 0]].set (0 : Nat) [DV.int .i64 (IntKind.i64.wrap ((0 : Int) - pos))])))].reverse, [cellS (DV.sl SK.ro 1 (List.take (3 : Nat) ([[DV.int .i64 0], [DV.int .i64 0], [DV.int .i64 0]].set (1 : Nat) [DV.int .i64 pos])))].reverse].reverse)) (0 : Int) (1 : Int) c == if (if IntKind.i64.wrap (bil - pos) < roomI bal (0 : Int) res c then IntKind.i64.wrap (bil - pos) else roomI bal (0 : Int) res c) > (0 : Int) then if IntKind.i64.wrap (bil - pos) < roomI bal (0 : Int) res c then IntKind.i64.wrap (bil - pos) else roomI bal (0 : Int) res c else (0 : Int))
 (need (FSpec.D (trueS) [])
 (some (.bool true)))
 (some (.bool false)))))
 (cond (decide (mul ≥ (0 : Int)))
 (need (FSpec.D (ofG) [(.agg [(.sl (SK.ro) 3 [[(.int .i64 bal), (.int .i64 ((0 : Int))), (.int .i64 res)], [(.int .i64 ((0 : Int))), (.int .i64 ((0 : Int))), (.int .i64 ((0 : Int)))], [(.int .i64 ((0 : Int))), (.int .i64 ((0 : Int))), (.int .i64 ((0 : Int)))]]), (.sl (SK.ro) 1 [[(.sla false 1 [[(.int .i64 ((-1 : Int)))], [(.int .i64 bil)], [(.int .i64 ((-1 : Int)))]])], [(.sla false 1 [[(.int .i64 ((-1 : Int)))], [(.int .i64 ((-1 : Int)))], [(.int .i64 ((-1 : Int)))]])], [(.sla false 1 [[(.int .i64 ((-1 : Int)))], [(.int .i64 ((-1 : Int)))], [(.int .i64 ((-1 : Int)))]])]]), (.sl (SK.ro) 1 [[(.int .i64 mul)], [(.int .i64 ((-1 : Int)))], [(.int .i64 ((-1 : Int)))]]), (.sl (SK.ro) 1 [[(.sla false 1 [[(.int .i64 ((0 : Int)))], [(.int .i64 pos)], [(.int .i64 ((0 : Int)))]])], [(.sla false 1 [[(.int .i64 (IntKind.i64.wrap ((0 : Int) - pos)))], [(.int .i64 ((0 : Int)))], [(.int .i64 ((0 : Int)))]])], [(.sla false 1 [[(.int .i64 ((0 : Int)))], [(.int .i64 ((0 : Int)))], [(.int .i64 ((0 : Int)))]])]])]), (.int .i64 ((0 : Int))), (.int .i64 ((1 : Int))), (.int .i64 c)])
 (cond (ofI (rowsA (DV.sl SK.ro 3 (List.take (3 : Nat) (([[DV.int .i64 0, DV.int .i64 0, DV.int .i64 0], [DV.int .i64 0, DV.int .i64 0, DV.int .i64 0], [DV.int .i64 0, DV.int .i64 0, DV.int .i64 0]].set (0 : Nat) [DV.int .i64 bal, DV.int .i64 0, DV.int .i64 0]).set (0 : Nat) [DV.int .i64 bal, DV.int .i64 0, DV.int .i64 res])))) (rowsA (DV.sl SK.ro 1 [[cellS (DV.sl SK.ro 1 [[DV.int .i64 (-1 : Int)], [DV.int .i64 (-1 : Int)], [DV.int .i64 (-1 : Int)]])].reverse, [cellS (DV.sl SK.ro 1 [[DV.int .i64 (-1 : Int)], [DV.int .i64 (-1 : Int)], [DV.int .i64 (-1 : Int)]])].reverse, [cellS (DV.sl SK.ro 1 (List.take (3 : Nat) ([[DV.int .i64 (-1 : Int)], [DV.int .i64 (-1 : Int)], [DV.int .i64 (-1 : Int)]].set (1 : Nat) [DV.int .i64 bil])))].reverse].reverse)) (rowsA (DV.sl SK.ro 1 (List.take (3 : Nat) ([[DV.int .i64 (-1 : Int)], [DV.int .i64 (-1 : Int)], [DV.int .i64 (-1 : Int)]].set (0 : Nat) [DV.int .i64 mul])))) (rowsA (DV.sl SK.ro 1 [[cellS (DV.sl SK.ro 1 [[DV.int .i64 0], [DV.int .i64 0], [DV.int .i64 0]])].reverse, [cellS (DV.sl SK.ro 1 (List.take (3 : Nat) ([[DV.int .i64 0], [DV.int .i64 0], [DV.int .i64 0]].set (0 : Nat) [DV.int .i64 (IntKind.i64.wrap ((0 : Int) - pos))])))].reverse, [cellS (DV.sl SK.ro 1 (List.take (3 : Nat) ([[DV.int .i64 0], [DV.int .i64 0], [DV.int .i64 0]].set (1 : Nat) [DV.int .i64 pos])))].reverse].reverse)) (0 : Int) (1 : Int) c == if (if IntKind.i64.wrap (mul - pos) < roomI bal (0 : Int) res c then IntKind.i64.wrap (mul - pos) else roomI bal (0 : Int) res c) > (0 : Int) then if IntKind.i64.wrap (mul - pos) < roomI bal (0 : Int) res c then IntKind.i64.wrap (mul - pos) else roomI bal (0 : Int) res c else (0 : Int))
 (need (FSpec.D (trueS) [])
 (some (.bool true)))
 (some (.bool false))))
 (need (FSpec.D (ofG) [(.agg [(.sl (SK.ro) 3 [[(.int .i64 bal), (.int .i64 ((0 : Int))), (.int .i64 res)], [(.int .i64 ((0 : Int))), (.int .i64 ((0 : Int))), (.int .i64 ((0 : Int)))], [(.int .i64 ((0 : Int))), (.int .i64 ((0 : Int))), (.int .i64 ((0 : Int)))]]), (.sl (SK.ro) 1 [[(.sla false 1 [[(.int .i64 ((-1 : Int)))], [(.int .i64 bil)], [(.int .i64 ((-1 : Int)))]])], [(.sla false 1 [[(.int .i64 ((-1 : Int)))], [(.int .i64 ((-1 : Int)))], [(.int .i64 ((-1 : Int)))]])], [(.sla false 1 [[(.int .i64 ((-1 : Int)))], [(.int .i64 ((-1 : Int)))], [(.int .i64 ((-1 : Int)))]])]]), (.sl (SK.ro) 1 [[(.int .i64 mul)], [(.int .i64 ((-1 : Int)))], [(.int .i64 ((-1 : Int)))]]), (.sl (SK.ro) 1 [[(.sla false 1 [[(.int .i64 ((0 : Int)))], [(.int .i64 pos)], [(.int .i64 ((0 : Int)))]])], [(.sla false 1 [[(.int .i64 (IntKind.i64.wrap ((0 : Int) - pos)))], [(.int .i64 ((0 : Int)))], [(.int .i64 ((0 : Int)))]])], [(.sla false 1 [[(.int .i64 ((0 : Int)))], [(.int .i64 ((0 : Int)))], [(.int .i64 ((0 : Int)))]])]])]), (.int .i64 ((0 : Int))), (.int .i64 ((1 : Int))), (.int .i64 c)])
 (cond (ofI (rowsA (DV.sl SK.ro 3 (List.take (3 : Nat) (([[DV.int .i64 0, DV.int .i64 0, DV.int .i64 0], [DV.int .i64 0, DV.int .i64 0, DV.int .i64 0], [DV.int .i64 0, DV.int .i64 0, DV.int .i64 0]].set (0 : Nat) [DV.int .i64 bal, DV.int .i64 0, DV.int .i64 0]).set (0 : Nat) [DV.int .i64 bal, DV.int .i64 0, DV.int .i64 res])))) (rowsA (DV.sl SK.ro 1 [[cellS (DV.sl SK.ro 1 [[DV.int .i64 (-1 : Int)], [DV.int .i64 (-1 : Int)], [DV.int .i64 (-1 : Int)]])].reverse, [cellS (DV.sl SK.ro 1 [[DV.int .i64 (-1 : Int)], [DV.int .i64 (-1 : Int)], [DV.int .i64 (-1 : Int)]])].reverse, [cellS (DV.sl SK.ro 1 (List.take (3 : Nat) ([[DV.int .i64 (-1 : Int)], [DV.int .i64 (-1 : Int)], [DV.int .i64 (-1 : Int)]].set (1 : Nat) [DV.int .i64 bil])))].reverse].reverse)) (rowsA (DV.sl SK.ro 1 (List.take (3 : Nat) ([[DV.int .i64 (-1 : Int)], [DV.int .i64 (-1 : Int)], [DV.int .i64 (-1 : Int)]].set (0 : Nat) [DV.int .i64 mul])))) (rowsA (DV.sl SK.ro 1 [[cellS (DV.sl SK.ro 1 [[DV.int .i64 0], [DV.int .i64 0], [DV.int .i64 0]])].reverse, [cellS (DV.sl SK.ro 1 (List.take (3 : Nat) ([[DV.int .i64 0], [DV.int .i64 0], [DV.int .i64 0]].set (0 : Nat) [DV.int .i64 (IntKind.i64.wrap ((0 : Int) - pos))])))].reverse, [cellS (DV.sl SK.ro 1 (List.take (3 : Nat) ([[DV.int .i64 0], [DV.int .i64 0], [DV.int .i64 0]].set (1 : Nat) [DV.int .i64 pos])))].reverse].reverse)) (0 : Int) (1 : Int) c == if roomI bal (0 : Int) res c > (0 : Int) then roomI bal (0 : Int) res c else (0 : Int))
 (need (FSpec.D (trueS) [])
 (some (.bool true)))
 (some (.bool false)))))))) from by kernel_rfl).trans (by first | rfl | (simp only [decide_true, decide_false, eq_self, and_true, true_and, and_self, cond_true, cond_false, Nat.le_refl, Int.le_refl, Option.getD_some, Option.getD_none, Int.toNat_natCast, List.take_length, List.drop_zero, Nat.zero_add, List.nil_append, List.all_nil, List.append_nil, Bool.true_and, Bool.and_true, rowsA_sla, rowsA_sl, rowsA_nil, minus_zero, nat_le_cast, nat_nonneg, Option.isSome_some, Option.isSome_none, Bool.false_eq_true, false_and, and_false, if_true, if_false, implies_true, Int.toNat_zero, Bool.not_false, Bool.not_true, bne_self_eq_false]; done) | (simp only [decide_true, decide_false, eq_self, and_true, true_and, and_self, cond_true, cond_false, Nat.le_refl, Int.le_refl, Option.getD_some, Option.getD_none, Int.toNat_natCast, List.take_length, List.drop_zero, Nat.zero_add, List.nil_append, List.all_nil, List.append_nil, Bool.true_and, Bool.and_true, rowsA_sla, rowsA_sl, rowsA_nil, minus_zero, nat_le_cast, nat_nonneg, Option.isSome_some, Option.isSome_none, Bool.false_eq_true, false_and, and_false, if_true, if_false, implies_true, Int.toNat_zero, Bool.not_false, Bool.not_true, bne_self_eq_false]; rfl))
def Ab (bal res : Int) : List (List DV) := [[.int .i64 bal, .int .i64 0, .int .i64 res], [.int .i64 0, .int .i64 0, .int .i64 0], [.int .i64 0, .int .i64 0, .int .i64 0]]
def Bb (bil : Int) : List (List DV) := [[.sla false 1 [[.int .i64 (-1)], [.int .i64 bil], [.int .i64 (-1)]]], [.sla false 1 [[.int .i64 (-1)], [.int .i64 (-1)], [.int .i64 (-1)]]], [.sla false 1 [[.int .i64 (-1)], [.int .i64 (-1)], [.int .i64 (-1)]]]]
def Mb (mul : Int) : List (List DV) := [[.int .i64 mul], [.int .i64 (-1)], [.int .i64 (-1)]]
def Qb (pos neg : Int) : List (List DV) := [[.sla false 1 [[.int .i64 0], [.int .i64 pos], [.int .i64 0]]], [.sla false 1 [[.int .i64 neg], [.int .i64 0], [.int .i64 0]]], [.sla false 1 [[.int .i64 0], [.int .i64 0], [.int .i64 0]]]]
theorem row3_of {a b c : Int} (ha : is64 a) (hb : is64 b) (hc : is64 c) : okRow [.nilsl] [.sla false 1 [[.int .i64 a], [.int .i64 b], [.int .i64 c]]] = true ∧ (cellA [DV.sla false 1 [[.int .i64 a], [.int .i64 b], [.int .i64 c]]] 0).slZ = 1 ∧ ∀ r ∈ (cellA [DV.sla false 1 [[.int .i64 a], [.int .i64 b], [.int .i64 c]]] 0).slR, okRow z1 r = true ∧ is64 (cel r) := by
  refine ⟨rfl, rfl, fun r hr => ?_⟩
  have hr : r ∈ [[DV.int .i64 a], [.int .i64 b], [.int .i64 c]] := hr
  simp only [List.mem_cons, List.not_mem_nil, or_false] at hr
  rcases hr with rfl | rfl | rfl
  · exact ⟨rfl, ha⟩
  · exact ⟨rfl, hb⟩
  · exact ⟨rfl, hc⟩
theorem bk_of {bal res bil mul pos neg : Int} (h1 : 0 ≤ bal ∧ bal ≤ 1000) (h2 : 0 ≤ res ∧ res ≤ 1000) (h3 : -1 ≤ bil ∧ bil ≤ 1000) (h4 : -1 ≤ mul ∧ mul ≤ 1000) (h5 : -1000 ≤ pos ∧ pos ≤ 1000) (h6 : neg = 0 - pos) :
    BK (Ab bal res) (Bb bil) (Mb mul) (Qb pos neg) := by
  have i64 : ∀ x : Int, -1000 ≤ x → x ≤ 1000 → is64 x := fun x a b => by unfold is64; omega
  have k1 := i64 (-1) (by omega) (by omega)
  have k0 := i64 0 (by omega) (by omega)
  refine ⟨⟨fun e he => ?_, fun e he => ?_, fun e he => ?_, fun e he => ?_⟩, (show (1 : Nat) ≤ 3 by omega), (show (3 : Nat) ≤ 6 by omega), rfl, rfl, rfl, fun i hi => ?_, fun i hi => ?_, fun i hi => ?_, fun i hi => ?_, fun i j hi hj => ?_, fun i j hi hj => ?_⟩
  · simp only [Ab, List.mem_cons, List.not_mem_nil, or_false] at he
    rcases he with rfl | rfl | rfl <;> rfl
  · simp only [Bb, List.mem_cons, List.not_mem_nil, or_false] at he
    rcases he with rfl | rfl | rfl
    · exact row3_of k1 (i64 bil (by omega) (by omega)) k1
    · exact row3_of k1 k1 k1
    · exact row3_of k1 k1 k1
  · simp only [Mb, List.mem_cons, List.not_mem_nil, or_false] at he
    rcases he with rfl | rfl | rfl
    · exact ⟨rfl, i64 mul (by omega) (by omega)⟩
    · exact ⟨rfl, k1⟩
    · exact ⟨rfl, k1⟩
  · simp only [Qb, List.mem_cons, List.not_mem_nil, or_false] at he
    rcases he with rfl | rfl | rfl
    · exact row3_of k0 (i64 pos (by omega) (by omega)) k0
    · exact row3_of (i64 neg (by omega) (by omega)) k0 k0
    · exact row3_of k0 k0 k0
  · have hi : i < 3 := hi
    match i, hi with
    | 0, _ => rfl
    | 1, _ => rfl
    | 2, _ => rfl
  · have hi : i < 3 := hi
    match i, hi with
    | 0, _ => rfl
    | 1, _ => rfl
    | 2, _ => rfl
  · have hi : i < 3 := hi
    match i, hi with
    | 0, _ => show isA bal 0 res; unfold isA; omega
    | 1, _ => show isA 0 0 0; unfold isA; omega
    | 2, _ => show isA 0 0 0; unfold isA; omega
  · have hi : i < 3 := hi
    match i, hi with
    | 0, _ => show -1 ≤ mul ∧ mul ≤ 2305843009213693952; omega
    | 1, _ => show (-1 : Int) ≤ -1 ∧ (-1 : Int) ≤ 2305843009213693952; omega
    | 2, _ => show (-1 : Int) ≤ -1 ∧ (-1 : Int) ≤ 2305843009213693952; omega
  · have hi : i < 3 := hi
    have hj : j < 3 := hj
    have o : (-1 : Int) ≤ -1 ∧ (-1 : Int) ≤ 2305843009213693952 := by omega
    match i, j, hi, hj with
    | 0, 0, _, _ => exact o
    | 0, 1, _, _ => show -1 ≤ bil ∧ bil ≤ 2305843009213693952; omega
    | 0, 2, _, _ => exact o
    | 1, 0, _, _ => exact o
    | 1, 1, _, _ => exact o
    | 1, 2, _, _ => exact o
    | 2, 0, _, _ => exact o
    | 2, 1, _, _ => exact o
    | 2, 2, _, _ => exact o
  · have hi : i < 3 := hi
    have hj : j < 3 := hj
    have o : (-72057594037927936 : Int) < 0 ∧ (0 : Int) < 72057594037927936 := by omega
    match i, j, hi, hj with
    | 0, 0, _, _ => exact o
    | 0, 1, _, _ => show -72057594037927936 < pos ∧ pos < 72057594037927936; omega
    | 0, 2, _, _ => exact o
    | 1, 0, _, _ => show -72057594037927936 < neg ∧ neg < 72057594037927936; omega
    | 1, 1, _, _ => exact o
    | 1, 2, _, _ => exact o
    | 2, 0, _, _ => exact o
    | 2, 1, _, _ => exact o
    | 2, 2, _, _ => exact o
theorem mostG22 : ofG.ok Try.prog 22 := fun ds r hD hv => by
  obtain ⟨x, y, u, v, f, t, c, rfl, hx, hy, hu, hv', hB⟩ := hD
  cases hv
  exact EntX.args (LLe.cons (DLe.agg (LLe.cons hx.le (LLe.cons hy.le (LLe.cons hu.le (LLe.cons hv'.le (LLe.refl _)))))) (LLe.refl _)) rfl rfl (most22 _ _ ⟨_, _, _, _, _, _, _, rfl, hB⟩ rfl)
theorem spBo_ok : ∀ f s, spBo f = some s → s.ok Try.prog f := spAdd_ok known24 (spAdd_ok mostG22 (spAdd_ok room18 noSp_ok))
theorem of_val {bal res bil mul pos neg c : Int} (h1 : 0 ≤ bal ∧ bal ≤ 1000) (h2 : 0 ≤ res ∧ res ≤ 1000) (h3 : -1 ≤ bil ∧ bil ≤ 1000) (h4 : -1 ≤ mul ∧ mul ≤ 1000) (h5 : -1000 ≤ pos ∧ pos ≤ 1000) (h6 : neg = 0 - pos) (hc : 1 ≤ c ∧ c ≤ 3) :
    ofI (Ab bal res) (Bb bil) (Mb mul) (Qb pos neg) 0 1 c = max 0 (min (min (roomI bal 0 res c) (cond (decide (bil ≥ 0)) (bil - pos) 1000)) (cond (decide (mul ≥ 0)) (mul - pos) 1000)) := by
  have hB := bk_of h1 h2 h3 h4 h5 h6
  unfold ofI fitB
  rw [show mayB ((Ab bal res).length : Nat) 0 1 1 c = true from mayB_iff.2 ⟨by omega, by show (0 : Int) < 3; omega, by omega, by show (1 : Int) < 3; omega, by omega, by omega, by omega, hc.1, hc.2⟩, Bool.true_and, show (0 : Int).toNat = 0 from rfl, show (1 : Int).toNat = 1 from rfl, sh_top hB (show 0 < (Ab bal res).length from (show (0 : Nat) < 3 by omega))]
  unfold topT topU bcI roomI
  have e1 : aci (Ab bal res) 0 0 = bal := rfl
  have e2 : aci (Ab bal res) 0 1 = 0 := rfl
  have e3 : aci (Ab bal res) 0 2 = res := rfl
  have e4 : at2 (Bb bil) 0 1 = bil := rfl
  have e5 : at2 (Qb pos neg) 0 1 = pos := rfl
  have e6 : at1 (Mb mul) 0 = mul := rfl
  have e7 : sumR (rw (Qb pos neg) 0) = 0 + (pos + (0 + 0)) := rfl
  rw [e1, e2, e3, e4, e5, e6, e7]
  have b1 : (bil != -1) = decide (bil ≥ 0) := by
    by_cases h : bil = -1
    · subst h; rfl
    · rw [show (bil != -1) = true from bne_iff_ne.2 h, decide_eq_true (by omega)]
  have b2 : (mul != -1) = decide (mul ≥ 0) := by
    by_cases h : mul = -1
    · subst h; rfl
    · rw [show (mul != -1) = true from bne_iff_ne.2 h, decide_eq_true (by omega)]
  rw [b1, b2, ← decide_not]
  by_cases g1 : bil ≥ 0
  · rw [decide_eq_true g1]
    by_cases g2 : mul ≥ 0
    · rw [decide_eq_true g2]
      cases (c == 3) <;> simp only [cond_true, cond_false] <;> simp only [cond_eq_ite, decide_eq_true_eq] <;> split <;> omega
    · rw [decide_eq_false g2]
      cases (c == 3) <;> simp only [cond_true, cond_false] <;> simp only [cond_eq_ite, decide_eq_true_eq] <;> split <;> omega
  · rw [decide_eq_false g1]
    by_cases g2 : mul ≥ 0
    · rw [decide_eq_true g2]
      cases (c == 3) <;> simp only [cond_true, cond_false] <;> simp only [cond_eq_ite, decide_eq_true_eq] <;> split <;> omega
    · rw [decide_eq_false g2]
      cases (c == 3) <;> simp only [cond_true, cond_false] <;> simp only [cond_eq_ite, decide_eq_true_eq] <;> split <;> omega
end Go.Proofs.Ytakapalpcglfaaa
