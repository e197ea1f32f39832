/- FitsOne: the run of the statement. No condition. -/
import Derived.Test.YthjcfiekdejdgaaFa
namespace Go.Proofs.Ythjcfiekdejdgaa
open Go Go.Proofs Go.RowKit Vm
set_option linter.unusedVariables false
set_option linter.unusedSimpArgs false
theorem t7 (n : Nat) (bal credit res bil mul pos am c : Int) : FK tab spKn lsp0 20 (n+12) 7 [.int .i64 bal, .int .i64 credit, .int .i64 res, .int .i64 bil, .int .i64 mul, .int .i64 pos, .int .i64 am, .int .i64 c] =
   (bif
 bif
 bif
 bif
 bif
 bif
 bif
 bif
 bif
 bif
 bif
 bif
 bif
 bif
 bif bif decide (bal < (0 : Int)) then true else decide (bal > (1000 : Int)) then true
 else decide (credit < (0 : Int)) then
 true
 else decide (credit > (1000 : Int)) then
 true
 else decide (res < (0 : Int)) then
 true
 else decide (res > (1000 : Int)) then
 true
 else decide (bil < (-1 : Int)) then
 true
 else decide (bil > (1000 : Int)) then
 true
 else decide (mul < (-1 : Int)) then
 true
 else decide (mul > (1000 : Int)) then
 true
 else decide (pos < (-1000 : Int)) then
 true
 else decide (pos > (1000 : Int)) then
 true
 else decide (am < (1 : Int)) then
 true
 else decide (am > (2000 : Int)) then
 true
 else decide (c < (1 : Int)) then
 true
 else decide (c > (3 : Int)) then
 some (DV.bool true)
 else
 bif c == (3 : Int) then
 bif
 !bif
 bif
 bif
 bif
 bif
 bif
 bif
 decide
 ((0 : Int) <
 (↑(List.take (3 : Nat)
 ([[DV.int .i64 0, DV.int .i64 0, DV.int .i64 0],
 [DV.int .i64 0, DV.int .i64 0, DV.int .i64 0],
 [DV.int .i64 0, DV.int .i64 0, DV.int .i64 0]].set
 (0 : Nat) [DV.int .i64 bal, DV.int .i64 credit, DV.int .i64 res])).length :
 Int)) then
 true
 else false then
 decide
 ((1 : Int) <
 (↑(List.take (3 : Nat)
 ([[DV.int .i64 0, DV.int .i64 0, DV.int .i64 0],
 [DV.int .i64 0, DV.int .i64 0, DV.int .i64 0],
 [DV.int .i64 0, DV.int .i64 0, DV.int .i64 0]].set
 (0 : Nat) [DV.int .i64 bal, DV.int .i64 credit, DV.int .i64 res])).length :
 Int))
 else false then
 true
 else false then
 decide (am ≥ (1 : Int))
 else false then
 decide (am ≤ (1099511627776 : Int))
 else false then
 decide (c ≥ (1 : Int))
 else false then
 decide (c ≤ (3 : Int))
 else false then
 bif
 false ==
 bif
 bif decide (am ≤ IntKind.i64.wrap (IntKind.i64.wrap (bal + credit) - res)) then
 bif decide (bil < (0 : Int)) then true else decide (IntKind.i64.wrap (pos + am) ≤ bil)
 else false then
 bif decide (mul < (0 : Int)) then true else decide (IntKind.i64.wrap (pos + am) ≤ mul)
 else false then
 need (trueS.D []) (some (DV.bool true))
 else some (DV.bool false)
 else
 bif c != (3 : Int) then
 bif decide (IntKind.i64.wrap (IntKind.i64.wrap (bal + credit) + IntKind.i64.wrap ((0 : Int) - am)) < (0 : Int)) then
 bif
 false ==
 bif
 bif decide (am ≤ IntKind.i64.wrap (IntKind.i64.wrap (bal + credit) - res)) then
 bif decide (bil < (0 : Int)) then true else decide (IntKind.i64.wrap (pos + am) ≤ bil)
 else false then
 bif decide (mul < (0 : Int)) then true else decide (IntKind.i64.wrap (pos + am) ≤ mul)
 else false then
 need (trueS.D []) (some (DV.bool true))
 else some (DV.bool false)
 else
 bif
 bif mul != (-1 : Int) then
 decide
 (IntKind.i64.wrap
 (IntKind.i64.wrap
 (IntKind.i64.wrap (IntKind.i64.wrap (IntKind.i64.wrap (IntKind.i64.wrap (0 : Int) + pos) + (0 : Int)) + (0 : Int)) +
 IntKind.i64.wrap ((0 : Int) + am)) +
 (0 : Int)) >
 mul)
 else false then
 bif
 false ==
 bif
 bif decide (am ≤ IntKind.i64.wrap (IntKind.i64.wrap (bal + credit) - res)) then
 bif decide (bil < (0 : Int)) then true else decide (IntKind.i64.wrap (pos + am) ≤ bil)
 else false then
 bif decide (mul < (0 : Int)) then true else decide (IntKind.i64.wrap (pos + am) ≤ mul)
 else false then
 need (trueS.D []) (some (DV.bool true))
 else some (DV.bool false)
 else
 bif
 bif c == (3 : Int) then
 decide
 (IntKind.i64.wrap (IntKind.i64.wrap (bal + credit) + IntKind.i64.wrap ((0 : Int) - am)) <
 if (0 : Int) > IntKind.i64.wrap (res - IntKind.i64.wrap ((0 : Int) + am)) then (0 : Int)
 else IntKind.i64.wrap (res - IntKind.i64.wrap ((0 : Int) + am)))
 else false then
 bif
 false ==
 bif
 bif decide (am ≤ IntKind.i64.wrap (IntKind.i64.wrap (bal + credit) - res)) then
 bif decide (bil < (0 : Int)) then true else decide (IntKind.i64.wrap (pos + am) ≤ bil)
 else false then
 bif decide (mul < (0 : Int)) then true else decide (IntKind.i64.wrap (pos + am) ≤ mul)
 else false then
 need (trueS.D []) (some (DV.bool true))
 else some (DV.bool false)
 else
 bif bif bil != (-1 : Int) then decide (IntKind.i64.wrap (pos + IntKind.i64.wrap ((0 : Int) + am)) > bil) else false then
 bif
 false ==
 bif
 bif decide (am ≤ IntKind.i64.wrap (IntKind.i64.wrap (bal + credit) - res)) then
 bif decide (bil < (0 : Int)) then true else decide (IntKind.i64.wrap (pos + am) ≤ bil)
 else false then
 bif decide (mul < (0 : Int)) then true else decide (IntKind.i64.wrap (pos + am) ≤ mul)
 else false then
 need (trueS.D []) (some (DV.bool true))
 else some (DV.bool false)
 else
 bif
 true ==
 bif
 bif decide (am ≤ IntKind.i64.wrap (IntKind.i64.wrap (bal + credit) - res)) then
 bif decide (bil < (0 : Int)) then true else decide (IntKind.i64.wrap (pos + am) ≤ bil)
 else false then
 bif decide (mul < (0 : Int)) then true else decide (IntKind.i64.wrap (pos + am) ≤ mul)
 else false then
 need (trueS.D []) (some (DV.bool true))
 else some (DV.bool false)
 else
 bif decide (IntKind.i64.wrap (IntKind.i64.wrap (bal + credit) + IntKind.i64.wrap ((0 : Int) - am)) < (0 : Int)) then
 bif
 false ==
 bif
 bif decide (am ≤ IntKind.i64.wrap (IntKind.i64.wrap (bal + credit) - res)) then
 bif decide (bil < (0 : Int)) then true else decide (IntKind.i64.wrap (pos + am) ≤ bil)
 else false then
 bif decide (mul < (0 : Int)) then true else decide (IntKind.i64.wrap (pos + am) ≤ mul)
 else false then
 need (trueS.D []) (some (DV.bool true))
 else some (DV.bool false)
 else
 bif
 bif mul != (-1 : Int) then
 decide
 (IntKind.i64.wrap
 (IntKind.i64.wrap
 (IntKind.i64.wrap (IntKind.i64.wrap (IntKind.i64.wrap (IntKind.i64.wrap (0 : Int) + pos) + (0 : Int)) + (0 : Int)) +
 IntKind.i64.wrap ((0 : Int) + am)) +
 (0 : Int)) >
 mul)
 else false then
 bif
 false ==
 bif
 bif decide (am ≤ IntKind.i64.wrap (IntKind.i64.wrap (bal + credit) - res)) then
 bif decide (bil < (0 : Int)) then true else decide (IntKind.i64.wrap (pos + am) ≤ bil)
 else false then
 bif decide (mul < (0 : Int)) then true else decide (IntKind.i64.wrap (pos + am) ≤ mul)
 else false then
 need (trueS.D []) (some (DV.bool true))
 else some (DV.bool false)
 else
 bif
 bif c == (3 : Int) then
 decide
 (IntKind.i64.wrap (IntKind.i64.wrap (bal + credit) + IntKind.i64.wrap ((0 : Int) - am)) <
 if (0 : Int) > IntKind.i64.wrap res then (0 : Int) else IntKind.i64.wrap res)
 else false then
 bif
 false ==
 bif
 bif decide (am ≤ IntKind.i64.wrap (IntKind.i64.wrap (bal + credit) - res)) then
 bif decide (bil < (0 : Int)) then true else decide (IntKind.i64.wrap (pos + am) ≤ bil)
 else false then
 bif decide (mul < (0 : Int)) then true else decide (IntKind.i64.wrap (pos + am) ≤ mul)
 else false then
 need (trueS.D []) (some (DV.bool true))
 else some (DV.bool false)
 else
 bif bif bil != (-1 : Int) then decide (IntKind.i64.wrap (pos + IntKind.i64.wrap ((0 : Int) + am)) > bil) else false then
 bif
 false ==
 bif
 bif decide (am ≤ IntKind.i64.wrap (IntKind.i64.wrap (bal + credit) - res)) then
 bif decide (bil < (0 : Int)) then true else decide (IntKind.i64.wrap (pos + am) ≤ bil)
 else false then
 bif decide (mul < (0 : Int)) then true else decide (IntKind.i64.wrap (pos + am) ≤ mul)
 else false then
 need (trueS.D []) (some (DV.bool true))
 else some (DV.bool false)
 else
 bif
 true ==
 bif
 bif decide (am ≤ IntKind.i64.wrap (IntKind.i64.wrap (bal + credit) - res)) then
 bif decide (bil < (0 : Int)) then true else decide (IntKind.i64.wrap (pos + am) ≤ bil)
 else false then
 bif decide (mul < (0 : Int)) then true else decide (IntKind.i64.wrap (pos + am) ≤ mul)
 else false then
 need (trueS.D []) (some (DV.bool true))
 else some (DV.bool false)
 else
 bif
 !bif
 bif
 bif
 bif
 bif
 bif
 bif
 decide
 ((0 : Int) <
 (↑(List.take (3 : Nat)
 ([[DV.int .i64 0, DV.int .i64 0, DV.int .i64 0],
 [DV.int .i64 0, DV.int .i64 0, DV.int .i64 0],
 [DV.int .i64 0, DV.int .i64 0, DV.int .i64 0]].set
 (0 : Nat) [DV.int .i64 bal, DV.int .i64 credit, DV.int .i64 res])).length :
 Int)) then
 true
 else false then
 decide
 ((1 : Int) <
 (↑(List.take (3 : Nat)
 ([[DV.int .i64 0, DV.int .i64 0, DV.int .i64 0],
 [DV.int .i64 0, DV.int .i64 0, DV.int .i64 0],
 [DV.int .i64 0, DV.int .i64 0, DV.int .i64 0]].set
 (0 : Nat) [DV.int .i64 bal, DV.int .i64 credit, DV.int .i64 res])).length :
 Int))
 else false then
 true
 else false then
 decide (am ≥ (1 : Int))
 else false then
 decide (am ≤ (1099511627776 : Int))
 else false then
 decide (c ≥ (1 : Int))
 else false then
 decide (c ≤ (3 : Int))
 else false then
 bif
 false ==
 bif
 bif decide (am ≤ IntKind.i64.wrap (bal + credit)) then
 bif decide (bil < (0 : Int)) then true else decide (IntKind.i64.wrap (pos + am) ≤ bil)
 else false then
 bif decide (mul < (0 : Int)) then true else decide (IntKind.i64.wrap (pos + am) ≤ mul)
 else false then
 need (trueS.D []) (some (DV.bool true))
 else some (DV.bool false)
 else
 bif c != (3 : Int) then
 bif decide (IntKind.i64.wrap (IntKind.i64.wrap (bal + credit) + IntKind.i64.wrap ((0 : Int) - am)) < (0 : Int)) then
 bif
 false ==
 bif
 bif decide (am ≤ IntKind.i64.wrap (bal + credit)) then
 bif decide (bil < (0 : Int)) then true else decide (IntKind.i64.wrap (pos + am) ≤ bil)
 else false then
 bif decide (mul < (0 : Int)) then true else decide (IntKind.i64.wrap (pos + am) ≤ mul)
 else false then
 need (trueS.D []) (some (DV.bool true))
 else some (DV.bool false)
 else
 bif
 bif mul != (-1 : Int) then
 decide
 (IntKind.i64.wrap
 (IntKind.i64.wrap
 (IntKind.i64.wrap (IntKind.i64.wrap (IntKind.i64.wrap (IntKind.i64.wrap (0 : Int) + pos) + (0 : Int)) + (0 : Int)) +
 IntKind.i64.wrap ((0 : Int) + am)) +
 (0 : Int)) >
 mul)
 else false then
 bif
 false ==
 bif
 bif decide (am ≤ IntKind.i64.wrap (bal + credit)) then
 bif decide (bil < (0 : Int)) then true else decide (IntKind.i64.wrap (pos + am) ≤ bil)
 else false then
 bif decide (mul < (0 : Int)) then true else decide (IntKind.i64.wrap (pos + am) ≤ mul)
 else false then
 need (trueS.D []) (some (DV.bool true))
 else some (DV.bool false)
 else
 bif
 bif c == (3 : Int) then
 decide
 (IntKind.i64.wrap (IntKind.i64.wrap (bal + credit) + IntKind.i64.wrap ((0 : Int) - am)) <
 if (0 : Int) > IntKind.i64.wrap (res - IntKind.i64.wrap ((0 : Int) + am)) then (0 : Int)
 else IntKind.i64.wrap (res - IntKind.i64.wrap ((0 : Int) + am)))
 else false then
 bif
 false ==
 bif
 bif decide (am ≤ IntKind.i64.wrap (bal + credit)) then
 bif decide (bil < (0 : Int)) then true else decide (IntKind.i64.wrap (pos + am) ≤ bil)
 else false then
 bif decide (mul < (0 : Int)) then true else decide (IntKind.i64.wrap (pos + am) ≤ mul)
 else false then
 need (trueS.D []) (some (DV.bool true))
 else some (DV.bool false)
 else
 bif bif bil != (-1 : Int) then decide (IntKind.i64.wrap (pos + IntKind.i64.wrap ((0 : Int) + am)) > bil) else false then
 bif
 false ==
 bif
 bif decide (am ≤ IntKind.i64.wrap (bal + credit)) then
 bif decide (bil < (0 : Int)) then true else decide (IntKind.i64.wrap (pos + am) ≤ bil)
 else false then
 bif decide (mul < (0 : Int)) then true else decide (IntKind.i64.wrap (pos + am) ≤ mul)
 else false then
 need (trueS.D []) (some (DV.bool true))
 else some (DV.bool false)
 else
 bif
 true ==
 bif
 bif decide (am ≤ IntKind.i64.wrap (bal + credit)) then
 bif decide (bil < (0 : Int)) then true else decide (IntKind.i64.wrap (pos + am) ≤ bil)
 else false then
 bif decide (mul < (0 : Int)) then true else decide (IntKind.i64.wrap (pos + am) ≤ mul)
 else false then
 need (trueS.D []) (some (DV.bool true))
 else some (DV.bool false)
 else
 bif decide (IntKind.i64.wrap (IntKind.i64.wrap (bal + credit) + IntKind.i64.wrap ((0 : Int) - am)) < (0 : Int)) then
 bif
 false ==
 bif
 bif decide (am ≤ IntKind.i64.wrap (bal + credit)) then
 bif decide (bil < (0 : Int)) then true else decide (IntKind.i64.wrap (pos + am) ≤ bil)
 else false then
 bif decide (mul < (0 : Int)) then true else decide (IntKind.i64.wrap (pos + am) ≤ mul)
 else false then
 need (trueS.D []) (some (DV.bool true))
 else some (DV.bool false)
 else
 bif
 bif mul != (-1 : Int) then
 decide
 (IntKind.i64.wrap
 (IntKind.i64.wrap
 (IntKind.i64.wrap (IntKind.i64.wrap (IntKind.i64.wrap (IntKind.i64.wrap (0 : Int) + pos) + (0 : Int)) + (0 : Int)) +
 IntKind.i64.wrap ((0 : Int) + am)) +
 (0 : Int)) >
 mul)
 else false then
 bif
 false ==
 bif
 bif decide (am ≤ IntKind.i64.wrap (bal + credit)) then
 bif decide (bil < (0 : Int)) then true else decide (IntKind.i64.wrap (pos + am) ≤ bil)
 else false then
 bif decide (mul < (0 : Int)) then true else decide (IntKind.i64.wrap (pos + am) ≤ mul)
 else false then
 need (trueS.D []) (some (DV.bool true))
 else some (DV.bool false)
 else
 bif
 bif c == (3 : Int) then
 decide
 (IntKind.i64.wrap (IntKind.i64.wrap (bal + credit) + IntKind.i64.wrap ((0 : Int) - am)) <
 if (0 : Int) > IntKind.i64.wrap res then (0 : Int) else IntKind.i64.wrap res)
 else false then
 bif
 false ==
 bif
 bif decide (am ≤ IntKind.i64.wrap (bal + credit)) then
 bif decide (bil < (0 : Int)) then true else decide (IntKind.i64.wrap (pos + am) ≤ bil)
 else false then
 bif decide (mul < (0 : Int)) then true else decide (IntKind.i64.wrap (pos + am) ≤ mul)
 else false then
 need (trueS.D []) (some (DV.bool true))
 else some (DV.bool false)
 else
 bif bif bil != (-1 : Int) then decide (IntKind.i64.wrap (pos + IntKind.i64.wrap ((0 : Int) + am)) > bil) else false then
 bif
 false ==
 bif
 bif decide (am ≤ IntKind.i64.wrap (bal + credit)) then
 bif decide (bil < (0 : Int)) then true else decide (IntKind.i64.wrap (pos + am) ≤ bil)
 else false then
 bif decide (mul < (0 : Int)) then true else decide (IntKind.i64.wrap (pos + am) ≤ mul)
 else false then
 need (trueS.D []) (some (DV.bool true))
 else some (DV.bool false)
 else
 bif
 true ==
 bif
 bif decide (am ≤ IntKind.i64.wrap (bal + credit)) then
 bif decide (bil < (0 : Int)) then true else decide (IntKind.i64.wrap (pos + am) ≤ bil)
 else false then
 bif decide (mul < (0 : Int)) then true else decide (IntKind.i64.wrap (pos + am) ≤ mul)
 else false then
 need (trueS.D []) (some (DV.bool true))
 else some (DV.bool false)) :=
  (show FK tab spKn lsp0 20 (n+12) 7 [.int .i64 bal, .int .i64 credit, .int .i64 res, .int .i64 bil, .int .i64 mul, .int .i64 pos, .int .i64 am, .int .i64 c] =
 (cond (bif bif bif bif bif bif bif bif bif bif bif bif bif bif bif decide (bal < (0 : Int)) then true else decide (bal > (1000 : Int)) then true else decide (credit < (0 : Int)) then true else decide (credit > (1000 : Int)) then true else decide (res < (0 : Int)) then true else decide (res > (1000 : Int)) then true else decide (bil < (-1 : Int)) then true else decide (bil > (1000 : Int)) then true else decide (mul < (-1 : Int)) then true else decide (mul > (1000 : Int)) then true else decide (pos < (-1000 : Int)) then true else decide (pos > (1000 : Int)) then true else decide (am < (1 : Int)) then true else decide (am > (2000 : Int)) then true else decide (c < (1 : Int)) then true else decide (c > (3 : Int)))
 (some (.bool true))
 (cond (c == (3 : Int))
 (cond (!bif bif bif bif bif bif bif bif decide ((0 : Int) ≥ (0 : Int)) then decide ((0 : Int) < (↑(List.take (3 : Nat) ([[DV.int .i64 0, DV.int .i64 0, DV.int .i64 0], [DV.int .i64 0, DV.int .i64 0, DV.int .i64 0], [DV.int .i64 0, DV.int .i64 0, DV.int .i64 0]].set (0 : Nat) [DV.int .i64 bal, DV.int .i64 credit, DV.int .i64 res])).length : Int)) else false then decide ((1 : Int) ≥ (0 : Int)) else false then decide ((1 : Int) < (↑(List.take (3 : Nat) ([[DV.int .i64 0, DV.int .i64 0, DV.int .i64 0], [DV.int .i64 0, DV.int .i64 0, DV.int .i64 0], [DV.int .i64 0, DV.int .i64 0, DV.int .i64 0]].set (0 : Nat) [DV.int .i64 bal, DV.int .i64 credit, DV.int .i64 res])).length : Int)) else false then true else false then decide (am ≥ (1 : Int)) else false then decide (am ≤ (1099511627776 : Int)) else false then decide (c ≥ (1 : Int)) else false then decide (c ≤ (3 : Int)) else false)
 (cond (false == bif bif decide (am ≤ IntKind.i64.wrap (IntKind.i64.wrap (bal + credit) - res)) then bif decide (bil < (0 : Int)) then true else decide (IntKind.i64.wrap (pos + am) ≤ bil) else false then bif decide (mul < (0 : Int)) then true else decide (IntKind.i64.wrap (pos + am) ≤ mul) else false)
 (need (FSpec.D (trueS) [])
 (some (.bool true)))
 (some (.bool false)))
 (cond (c != (3 : Int))
 (cond (decide (IntKind.i64.wrap (IntKind.i64.wrap (bal + credit) + IntKind.i64.wrap ((0 : Int) - am)) < (0 : Int)))
 (cond (false == bif bif decide (am ≤ IntKind.i64.wrap (IntKind.i64.wrap (bal + credit) - res)) then bif decide (bil < (0 : Int)) then true else decide (IntKind.i64.wrap (pos + am) ≤ bil) else false then bif decide (mul < (0 : Int)) then true else decide (IntKind.i64.wrap (pos + am) ≤ mul) else false)
 (need (FSpec.D (trueS) [])
 (some (.bool true)))
 (some (.bool false)))
 (cond (bif mul != (-1 : Int) then decide (IntKind.i64.wrap (IntKind.i64.wrap (IntKind.i64.wrap (IntKind.i64.wrap (IntKind.i64.wrap (IntKind.i64.wrap (0 : Int) + pos) + (0 : Int)) + (0 : Int)) + IntKind.i64.wrap ((0 : Int) + am)) + (0 : Int)) > mul) else false)
 (cond (false == bif bif decide (am ≤ IntKind.i64.wrap (IntKind.i64.wrap (bal + credit) - res)) then bif decide (bil < (0 : Int)) then true else decide (IntKind.i64.wrap (pos + am) ≤ bil) else false then bif decide (mul < (0 : Int)) then true else decide (IntKind.i64.wrap (pos + am) ≤ mul) else false)
 (need (FSpec.D (trueS) [])
 (some (.bool true)))
 (some (.bool false)))
 (cond (bif c == (3 : Int) then decide (IntKind.i64.wrap (IntKind.i64.wrap (bal + credit) + IntKind.i64.wrap ((0 : Int) - am)) < if (0 : Int) > IntKind.i64.wrap (res - IntKind.i64.wrap ((0 : Int) + am)) then (0 : Int) else IntKind.i64.wrap (res - IntKind.i64.wrap ((0 : Int) + am))) else false)
 (cond (false == bif bif decide (am ≤ IntKind.i64.wrap (IntKind.i64.wrap (bal + credit) - res)) then bif decide (bil < (0 : Int)) then true else decide (IntKind.i64.wrap (pos + am) ≤ bil) else false then bif decide (mul < (0 : Int)) then true else decide (IntKind.i64.wrap (pos + am) ≤ mul) else false)
 (need (FSpec.D (trueS) [])
 (some (.bool true)))
 (some (.bool false)))
 (cond (bif bil != (-1 : Int) then decide (IntKind.i64.wrap (pos + IntKind.i64.wrap ((0 : Int) + am)) > bil) else false)
 (cond (false == bif bif decide (am ≤ IntKind.i64.wrap (IntKind.i64.wrap (bal + credit) - res)) then bif decide (bil < (0 : Int)) then true else decide (IntKind.i64.wrap (pos + am) ≤ bil) else false then bif decide (mul < (0 : Int)) then true else decide (IntKind.i64.wrap (pos + am) ≤ mul) else false)
 (need (FSpec.D (trueS) [])
 (some (.bool true)))
 (some (.bool false)))
 (cond (true == bif bif decide (am ≤ IntKind.i64.wrap (IntKind.i64.wrap (bal + credit) - res)) then bif decide (bil < (0 : Int)) then true else decide (IntKind.i64.wrap (pos + am) ≤ bil) else false then bif decide (mul < (0 : Int)) then true else decide (IntKind.i64.wrap (pos + am) ≤ mul) else false)
 (need (FSpec.D (trueS) [])
 (some (.bool true)))
 (some (.bool false)))))))
 (cond (decide (IntKind.i64.wrap (IntKind.i64.wrap (bal + credit) + IntKind.i64.wrap ((0 : Int) - am)) < (0 : Int)))
 (cond (false == bif bif decide (am ≤ IntKind.i64.wrap (IntKind.i64.wrap (bal + credit) - res)) then bif decide (bil < (0 : Int)) then true else decide (IntKind.i64.wrap (pos + am) ≤ bil) else false then bif decide (mul < (0 : Int)) then true else decide (IntKind.i64.wrap (pos + am) ≤ mul) else false)
 (need (FSpec.D (trueS) [])
 (some (.bool true)))
 (some (.bool false)))
 (cond (bif mul != (-1 : Int) then decide (IntKind.i64.wrap (IntKind.i64.wrap (IntKind.i64.wrap (IntKind.i64.wrap (IntKind.i64.wrap (IntKind.i64.wrap (0 : Int) + pos) + (0 : Int)) + (0 : Int)) + IntKind.i64.wrap ((0 : Int) + am)) + (0 : Int)) > mul) else false)
 (cond (false == bif bif decide (am ≤ IntKind.i64.wrap (IntKind.i64.wrap (bal + credit) - res)) then bif decide (bil < (0 : Int)) then true else decide (IntKind.i64.wrap (pos + am) ≤ bil) else false then bif decide (mul < (0 : Int)) then true else decide (IntKind.i64.wrap (pos + am) ≤ mul) else false)
 (need (FSpec.D (trueS) [])
 (some (.bool true)))
 (some (.bool false)))
 (cond (bif c == (3 : Int) then decide (IntKind.i64.wrap (IntKind.i64.wrap (bal + credit) + IntKind.i64.wrap ((0 : Int) - am)) < if (0 : Int) > IntKind.i64.wrap (res - (0 : Int)) then (0 : Int) else IntKind.i64.wrap (res - (0 : Int))) else false)
 (cond (false == bif bif decide (am ≤ IntKind.i64.wrap (IntKind.i64.wrap (bal + credit) - res)) then bif decide (bil < (0 : Int)) then true else decide (IntKind.i64.wrap (pos + am) ≤ bil) else false then bif decide (mul < (0 : Int)) then true else decide (IntKind.i64.wrap (pos + am) ≤ mul) else false)
 (need (FSpec.D (trueS) [])
 (some (.bool true)))
 (some (.bool false)))
 (cond (bif bil != (-1 : Int) then decide (IntKind.i64.wrap (pos + IntKind.i64.wrap ((0 : Int) + am)) > bil) else false)
 (cond (false == bif bif decide (am ≤ IntKind.i64.wrap (IntKind.i64.wrap (bal + credit) - res)) then bif decide (bil < (0 : Int)) then true else decide (IntKind.i64.wrap (pos + am) ≤ bil) else false then bif decide (mul < (0 : Int)) then true else decide (IntKind.i64.wrap (pos + am) ≤ mul) else false)
 (need (FSpec.D (trueS) [])
 (some (.bool true)))
 (some (.bool false)))
 (cond (true == bif bif decide (am ≤ IntKind.i64.wrap (IntKind.i64.wrap (bal + credit) - res)) then bif decide (bil < (0 : Int)) then true else decide (IntKind.i64.wrap (pos + am) ≤ bil) else false then bif decide (mul < (0 : Int)) then true else decide (IntKind.i64.wrap (pos + am) ≤ mul) else false)
 (need (FSpec.D (trueS) [])
 (some (.bool true)))
 (some (.bool false)))))))))
 (cond (!bif bif bif bif bif bif bif bif decide ((0 : Int) ≥ (0 : Int)) then decide ((0 : Int) < (↑(List.take (3 : Nat) ([[DV.int .i64 0, DV.int .i64 0, DV.int .i64 0], [DV.int .i64 0, DV.int .i64 0, DV.int .i64 0], [DV.int .i64 0, DV.int .i64 0, DV.int .i64 0]].set (0 : Nat) [DV.int .i64 bal, DV.int .i64 credit, DV.int .i64 res])).length : Int)) else false then decide ((1 : Int) ≥ (0 : Int)) else false then decide ((1 : Int) < (↑(List.take (3 : Nat) ([[DV.int .i64 0, DV.int .i64 0, DV.int .i64 0], [DV.int .i64 0, DV.int .i64 0, DV.int .i64 0], [DV.int .i64 0, DV.int .i64 0, DV.int .i64 0]].set (0 : Nat) [DV.int .i64 bal, DV.int .i64 credit, DV.int .i64 res])).length : Int)) else false then true else false then decide (am ≥ (1 : Int)) else false then decide (am ≤ (1099511627776 : Int)) else false then decide (c ≥ (1 : Int)) else false then decide (c ≤ (3 : Int)) else false)
 (cond (false == bif bif decide (am ≤ IntKind.i64.wrap (bal + credit)) then bif decide (bil < (0 : Int)) then true else decide (IntKind.i64.wrap (pos + am) ≤ bil) else false then bif decide (mul < (0 : Int)) then true else decide (IntKind.i64.wrap (pos + am) ≤ mul) else false)
 (need (FSpec.D (trueS) [])
 (some (.bool true)))
 (some (.bool false)))
 (cond (c != (3 : Int))
 (cond (decide (IntKind.i64.wrap (IntKind.i64.wrap (bal + credit) + IntKind.i64.wrap ((0 : Int) - am)) < (0 : Int)))
 (cond (false == bif bif decide (am ≤ IntKind.i64.wrap (bal + credit)) then bif decide (bil < (0 : Int)) then true else decide (IntKind.i64.wrap (pos + am) ≤ bil) else false then bif decide (mul < (0 : Int)) then true else decide (IntKind.i64.wrap (pos + am) ≤ mul) else false)
 (need (FSpec.D (trueS) [])
 (some (.bool true)))
 (some (.bool false)))
 (cond (bif mul != (-1 : Int) then decide (IntKind.i64.wrap (IntKind.i64.wrap (IntKind.i64.wrap (IntKind.i64.wrap (IntKind.i64.wrap (IntKind.i64.wrap (0 : Int) + pos) + (0 : Int)) + (0 : Int)) + IntKind.i64.wrap ((0 : Int) + am)) + (0 : Int)) > mul) else false)
 (cond (false == bif bif decide (am ≤ IntKind.i64.wrap (bal + credit)) then bif decide (bil < (0 : Int)) then true else decide (IntKind.i64.wrap (pos + am) ≤ bil) else false then bif decide (mul < (0 : Int)) then true else decide (IntKind.i64.wrap (pos + am) ≤ mul) else false)
 (need (FSpec.D (trueS) [])
 (some (.bool true)))
 (some (.bool false)))
 (cond (bif c == (3 : Int) then decide (IntKind.i64.wrap (IntKind.i64.wrap (bal + credit) + IntKind.i64.wrap ((0 : Int) - am)) < if (0 : Int) > IntKind.i64.wrap (res - IntKind.i64.wrap ((0 : Int) + am)) then (0 : Int) else IntKind.i64.wrap (res - IntKind.i64.wrap ((0 : Int) + am))) else false)
 (cond (false == bif bif decide (am ≤ IntKind.i64.wrap (bal + credit)) then bif decide (bil < (0 : Int)) then true else decide (IntKind.i64.wrap (pos + am) ≤ bil) else false then bif decide (mul < (0 : Int)) then true else decide (IntKind.i64.wrap (pos + am) ≤ mul) else false)
 (need (FSpec.D (trueS) [])
 (some (.bool true)))
 (some (.bool false)))
 (cond (bif bil != (-1 : Int) then decide (IntKind.i64.wrap (pos + IntKind.i64.wrap ((0 : Int) + am)) > bil) else false)
 (cond (false == bif bif decide (am ≤ IntKind.i64.wrap (bal + credit)) then bif decide (bil < (0 : Int)) then true else decide (IntKind.i64.wrap (pos + am) ≤ bil) else false then bif decide (mul < (0 : Int)) then true else decide (IntKind.i64.wrap (pos + am) ≤ mul) else false)
 (need (FSpec.D (trueS) [])
 (some (.bool true)))
 (some (.bool false)))
 (cond (true == bif bif decide (am ≤ IntKind.i64.wrap (bal + credit)) then bif decide (bil < (0 : Int)) then true else decide (IntKind.i64.wrap (pos + am) ≤ bil) else false then bif decide (mul < (0 : Int)) then true else decide (IntKind.i64.wrap (pos + am) ≤ mul) else false)
 (need (FSpec.D (trueS) [])
 (some (.bool true)))
 (some (.bool false)))))))
 (cond (decide (IntKind.i64.wrap (IntKind.i64.wrap (bal + credit) + IntKind.i64.wrap ((0 : Int) - am)) < (0 : Int)))
 (cond (false == bif bif decide (am ≤ IntKind.i64.wrap (bal + credit)) then bif decide (bil < (0 : Int)) then true else decide (IntKind.i64.wrap (pos + am) ≤ bil) else false then bif decide (mul < (0 : Int)) then true else decide (IntKind.i64.wrap (pos + am) ≤ mul) else false)
 (need (FSpec.D (trueS) [])
 (some (.bool true)))
 (some (.bool false)))
 (cond (bif mul != (-1 : Int) then decide (IntKind.i64.wrap (IntKind.i64.wrap (IntKind.i64.wrap (IntKind.i64.wrap (IntKind.i64.wrap (IntKind.i64.wrap (0 : Int) + pos) + (0 : Int)) + (0 : Int)) + IntKind.i64.wrap ((0 : Int) + am)) + (0 : Int)) > mul) else false)
 (cond (false == bif bif decide (am ≤ IntKind.i64.wrap (bal + credit)) then bif decide (bil < (0 : Int)) then true else decide (IntKind.i64.wrap (pos + am) ≤ bil) else false then bif decide (mul < (0 : Int)) then true else decide (IntKind.i64.wrap (pos + am) ≤ mul) else false)
 (need (FSpec.D (trueS) [])
 (some (.bool true)))
 (some (.bool false)))
 (cond (bif c == (3 : Int) then decide (IntKind.i64.wrap (IntKind.i64.wrap (bal + credit) + IntKind.i64.wrap ((0 : Int) - am)) < if (0 : Int) > IntKind.i64.wrap (res - (0 : Int)) then (0 : Int) else IntKind.i64.wrap (res - (0 : Int))) else false)
 (cond (false == bif bif decide (am ≤ IntKind.i64.wrap (bal + credit)) then bif decide (bil < (0 : Int)) then true else decide (IntKind.i64.wrap (pos + am) ≤ bil) else false then bif decide (mul < (0 : Int)) then true else decide (IntKind.i64.wrap (pos + am) ≤ mul) else false)
 (need (FSpec.D (trueS) [])
 (some (.bool true)))
 (some (.bool false)))
 (cond (bif bil != (-1 : Int) then decide (IntKind.i64.wrap (pos + IntKind.i64.wrap ((0 : Int) + am)) > bil) else false)
 (cond (false == bif bif decide (am ≤ IntKind.i64.wrap (bal + credit)) then bif decide (bil < (0 : Int)) then true else decide (IntKind.i64.wrap (pos + am) ≤ bil) else false then bif decide (mul < (0 : Int)) then true else decide (IntKind.i64.wrap (pos + am) ≤ mul) else false)
 (need (FSpec.D (trueS) [])
 (some (.bool true)))
 (some (.bool false)))
 (cond (true == bif bif decide (am ≤ IntKind.i64.wrap (bal + credit)) then bif decide (bil < (0 : Int)) then true else decide (IntKind.i64.wrap (pos + am) ≤ bil) else false then bif decide (mul < (0 : Int)) then true else decide (IntKind.i64.wrap (pos + am) ≤ mul) else false)
 (need (FSpec.D (trueS) [])
 (some (.bool true)))
 (some (.bool false))))))))))) from by kernel_rfl).trans (by first | rfl | (simp only [decide_true, decide_false, eq_self, and_true, true_and, and_self, cond_true, cond_false, Nat.le_refl, Int.le_refl, Option.getD_some, Option.getD_none, Int.toNat_natCast, List.take_length, List.drop_zero, Nat.zero_add, List.nil_append, List.all_nil, List.append_nil, Bool.true_and, Bool.and_true, rowsA_sla, rowsA_sl, rowsA_nil, minus_zero, nat_le_cast, nat_nonneg, Option.isSome_some, Option.isSome_none, Bool.false_eq_true, false_and, and_false, if_true, if_false, implies_true, Int.toNat_zero, Bool.not_false, Bool.not_true, bne_self_eq_false]; done) | (simp only [decide_true, decide_false, eq_self, and_true, true_and, and_self, cond_true, cond_false, Nat.le_refl, Int.le_refl, Option.getD_some, Option.getD_none, Int.toNat_natCast, List.take_length, List.drop_zero, Nat.zero_add, List.nil_append, List.all_nil, List.append_nil, Bool.true_and, Bool.and_true, rowsA_sla, rowsA_sl, rowsA_nil, minus_zero, nat_le_cast, nat_nonneg, Option.isSome_some, Option.isSome_none, Bool.false_eq_true, false_and, and_false, if_true, if_false, implies_true, Int.toNat_zero, Bool.not_false, Bool.not_true, bne_self_eq_false]; rfl))
end Go.Proofs.Ythjcfiekdejdgaa
