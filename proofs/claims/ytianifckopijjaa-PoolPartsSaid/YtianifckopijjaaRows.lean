/-
  No cell of these rows narrows 'for every input' (looked for: loops, veiled, ifaces, maps, wideKeys, modest, calm, conditions, laid).
  DERIVED. THE GIVEN ROWS OF THIS SEAT. 10 by the template 'for every input the law returns true; each argument reads behind the call as it read before'; 0 by the template 'total and deterministic' (their statements: YtianifckopijjaaTotals.lean).
  GIVEN WITH THE SEED: the statements are not yours to turn. If you find one false, say at which input.
  Laid BY PROGRAM, IN A SANDBOX (cutbox-rows.mjs): the forced cells as the released guide's own fill.sh prints them over the translation 50545b07465bd5b7… (all of the seat's roots in one cut). By AI agents, Wed Nov 11 2026. No macro, syntax, notation, axiom, sorry.
-/
import Derived.Test.YtianifckopijjaaChecked
import GoSem.Claim
import GoSem.ClaimJoined
import GoSem.ClaimMapViews
import Derived.JoinedTies
import Derived.KernelRfl
namespace Go.Proofs.Ytianifckopijjaa
/- THE CELL 'sum', in the pinned program and in every row, IS THE sha256 OF THE DUMP (.gsa) THAT YtianifckopijjaaProg.lean LOADS. Nothing in Lean hashes anything: it is a label: what it is worth is what the hold of that sum in a sandbox is worth. -/
noncomputable def Try.pinned : Pinned := { name := "ytianifckopijjaa", sum := "50545b07465bd5b72a6bae1f87fabf93a8c9a5d8a4a40333d06ab550ee9fe95b", checked := Try.checked }
namespace Rows
def none {H : Type} : Left H := { results := [], args := [] }

/-- 'girolaw1.CashSums': WHATEVER THE INPUT: true; the input reads as it did. -/
def cashSumsSpec : ChangeSpec := { name := "cashSums", fn := fun _ => fun
  | [d1, d2] => { results := [.lit (.bool true)], args := [d1, d2] }
  | _ => none }
def cashSumsRow : OpenClaim := { program := "ytianifckopijjaa", sum := "50545b07465bd5b72a6bae1f87fabf93a8c9a5d8a4a40333d06ab550ee9fe95b", func := "giro/girolaw1.CashSums", spec := "cashSums", inPlace := ["math/bits.Add64"], named := ["math/bits.divideError", "math/bits.overflowError"], apart := false }
def CashSumsSaid : Prop := cashSumsRow.holds Try.pinned (OpenSpec.ofChange cashSumsSpec)

/-- ITS FALSE NEIGHBOUR: 'it returns false'. Refute it at one input. -/
def cashSumsWrong : ChangeSpec := { name := "cashSums", fn := fun _ => fun
  | [d1, d2] => { results := [.lit (.bool false)], args := [d1, d2] }
  | _ => none }
def CashSumsWrongFalsely : Prop := cashSumsRow.holds Try.pinned (OpenSpec.ofChange cashSumsWrong)

/-- 'girolaw1.CashCuts': WHATEVER THE INPUT: true; the input reads as it did. -/
def cashCutsSpec : ChangeSpec := { name := "cashCuts", fn := fun _ => fun
  | [d1, d2, d3] => { results := [.lit (.bool true)], args := [d1, d2, d3] }
  | _ => none }
def cashCutsRow : OpenClaim := { program := "ytianifckopijjaa", sum := "50545b07465bd5b72a6bae1f87fabf93a8c9a5d8a4a40333d06ab550ee9fe95b", func := "giro/girolaw1.CashCuts", spec := "cashCuts", inPlace := ["math/bits.Add64"], named := ["math/bits.divideError", "math/bits.overflowError"], apart := false }
def CashCutsSaid : Prop := cashCutsRow.holds Try.pinned (OpenSpec.ofChange cashCutsSpec)

/-- ITS FALSE NEIGHBOUR: 'it returns false'. Refute it at one input. -/
def cashCutsWrong : ChangeSpec := { name := "cashCuts", fn := fun _ => fun
  | [d1, d2, d3] => { results := [.lit (.bool false)], args := [d1, d2, d3] }
  | _ => none }
def CashCutsWrongFalsely : Prop := cashCutsRow.holds Try.pinned (OpenSpec.ofChange cashCutsWrong)

/-- 'girolaw1.CashWorth': WHATEVER THE INPUT: true; the input reads as it did. -/
def cashWorthSpec : ChangeSpec := { name := "cashWorth", fn := fun _ => fun
  | [d1, d2, d3] => { results := [.lit (.bool true)], args := [d1, d2, d3] }
  | _ => none }
def cashWorthRow : OpenClaim := { program := "ytianifckopijjaa", sum := "50545b07465bd5b72a6bae1f87fabf93a8c9a5d8a4a40333d06ab550ee9fe95b", func := "giro/girolaw1.CashWorth", spec := "cashWorth", inPlace := ["math/bits.Add64"], named := ["math/bits.divideError", "math/bits.overflowError"], apart := false }
def CashWorthSaid : Prop := cashWorthRow.holds Try.pinned (OpenSpec.ofChange cashWorthSpec)

/-- ITS FALSE NEIGHBOUR: 'it returns false'. Refute it at one input. -/
def cashWorthWrong : ChangeSpec := { name := "cashWorth", fn := fun _ => fun
  | [d1, d2, d3] => { results := [.lit (.bool false)], args := [d1, d2, d3] }
  | _ => none }
def CashWorthWrongFalsely : Prop := cashWorthRow.holds Try.pinned (OpenSpec.ofChange cashWorthWrong)

/-- 'girolaw1.CashKnown': WHATEVER THE INPUT: true; the input reads as it did. -/
def cashKnownSpec : ChangeSpec := { name := "cashKnown", fn := fun _ => fun
  | [d] => { results := [.lit (.bool true)], args := [d] }
  | _ => none }
def cashKnownRow : OpenClaim := { program := "ytianifckopijjaa", sum := "50545b07465bd5b72a6bae1f87fabf93a8c9a5d8a4a40333d06ab550ee9fe95b", func := "giro/girolaw1.CashKnown", spec := "cashKnown", inPlace := ["math/bits.Add64"], named := ["math/bits.divideError", "math/bits.overflowError"], apart := false }
def CashKnownSaid : Prop := cashKnownRow.holds Try.pinned (OpenSpec.ofChange cashKnownSpec)

/-- ITS FALSE NEIGHBOUR: 'it returns false'. Refute it at one input. -/
def cashKnownWrong : ChangeSpec := { name := "cashKnown", fn := fun _ => fun
  | [d] => { results := [.lit (.bool false)], args := [d] }
  | _ => none }
def CashKnownWrongFalsely : Prop := cashKnownRow.holds Try.pinned (OpenSpec.ofChange cashKnownWrong)

/-- 'girolaw1.CashBig': WHATEVER THE INPUT: true; the input reads as it did. -/
def cashBigSpec : ChangeSpec := { name := "cashBig", fn := fun _ => fun
  | [d] => { results := [.lit (.bool true)], args := [d] }
  | _ => none }
def cashBigRow : OpenClaim := { program := "ytianifckopijjaa", sum := "50545b07465bd5b72a6bae1f87fabf93a8c9a5d8a4a40333d06ab550ee9fe95b", func := "giro/girolaw1.CashBig", spec := "cashBig", inPlace := ["math/bits.Add64"], named := ["math/bits.divideError", "math/bits.overflowError"], apart := false }
def CashBigSaid : Prop := cashBigRow.holds Try.pinned (OpenSpec.ofChange cashBigSpec)

/-- ITS FALSE NEIGHBOUR: 'it returns false'. Refute it at one input. -/
def cashBigWrong : ChangeSpec := { name := "cashBig", fn := fun _ => fun
  | [d] => { results := [.lit (.bool false)], args := [d] }
  | _ => none }
def CashBigWrongFalsely : Prop := cashBigRow.holds Try.pinned (OpenSpec.ofChange cashBigWrong)

/-- 'girolaw1.CashTells': WHATEVER THE INPUT: true; the input reads as it did. -/
def cashTellsSpec : ChangeSpec := { name := "cashTells", fn := fun _ => fun
  | [d1, d2, d3] => { results := [.lit (.bool true)], args := [d1, d2, d3] }
  | _ => none }
def cashTellsRow : OpenClaim := { program := "ytianifckopijjaa", sum := "50545b07465bd5b72a6bae1f87fabf93a8c9a5d8a4a40333d06ab550ee9fe95b", func := "giro/girolaw1.CashTells", spec := "cashTells", inPlace := ["math/bits.Add64"], named := ["math/bits.divideError", "math/bits.overflowError"], apart := false }
def CashTellsSaid : Prop := cashTellsRow.holds Try.pinned (OpenSpec.ofChange cashTellsSpec)

/-- ITS FALSE NEIGHBOUR: 'it returns false'. Refute it at one input. -/
def cashTellsWrong : ChangeSpec := { name := "cashTells", fn := fun _ => fun
  | [d1, d2, d3] => { results := [.lit (.bool false)], args := [d1, d2, d3] }
  | _ => none }
def CashTellsWrongFalsely : Prop := cashTellsRow.holds Try.pinned (OpenSpec.ofChange cashTellsWrong)

/-- 'girolaw8.PoolTells': WHATEVER THE INPUT: true; the input reads as it did. -/
def poolTellsSpec : ChangeSpec := { name := "poolTells", fn := fun _ => fun
  | [d1, d2, d3, d4, d5] => { results := [.lit (.bool true)], args := [d1, d2, d3, d4, d5] }
  | _ => none }
def poolTellsRow : OpenClaim := { program := "ytianifckopijjaa", sum := "50545b07465bd5b72a6bae1f87fabf93a8c9a5d8a4a40333d06ab550ee9fe95b", func := "giro/girolaw8.PoolTells", spec := "poolTells", inPlace := ["math/bits.Add64"], named := ["math/bits.divideError", "math/bits.overflowError"], apart := false }
def PoolTellsSaid : Prop := poolTellsRow.holds Try.pinned (OpenSpec.ofChange poolTellsSpec)

/-- ITS FALSE NEIGHBOUR: 'it returns false'. Refute it at one input. -/
def poolTellsWrong : ChangeSpec := { name := "poolTells", fn := fun _ => fun
  | [d1, d2, d3, d4, d5] => { results := [.lit (.bool false)], args := [d1, d2, d3, d4, d5] }
  | _ => none }
def PoolTellsWrongFalsely : Prop := poolTellsRow.holds Try.pinned (OpenSpec.ofChange poolTellsWrong)

/-- 'girolaw8.PoolMore': WHATEVER THE INPUT: true; the input reads as it did. -/
def poolMoreSpec : ChangeSpec := { name := "poolMore", fn := fun _ => fun
  | [d1, d2, d3, d4, d5] => { results := [.lit (.bool true)], args := [d1, d2, d3, d4, d5] }
  | _ => none }
def poolMoreRow : OpenClaim := { program := "ytianifckopijjaa", sum := "50545b07465bd5b72a6bae1f87fabf93a8c9a5d8a4a40333d06ab550ee9fe95b", func := "giro/girolaw8.PoolMore", spec := "poolMore", inPlace := ["math/bits.Add64"], named := ["math/bits.divideError", "math/bits.overflowError"], apart := false }
def PoolMoreSaid : Prop := poolMoreRow.holds Try.pinned (OpenSpec.ofChange poolMoreSpec)

/-- ITS FALSE NEIGHBOUR: 'it returns false'. Refute it at one input. -/
def poolMoreWrong : ChangeSpec := { name := "poolMore", fn := fun _ => fun
  | [d1, d2, d3, d4, d5] => { results := [.lit (.bool false)], args := [d1, d2, d3, d4, d5] }
  | _ => none }
def PoolMoreWrongFalsely : Prop := poolMoreRow.holds Try.pinned (OpenSpec.ofChange poolMoreWrong)

/-- 'girolaw8.PoolOwn': WHATEVER THE INPUT: true; the input reads as it did. -/
def poolOwnSpec : ChangeSpec := { name := "poolOwn", fn := fun _ => fun
  | [d1, d2, d3] => { results := [.lit (.bool true)], args := [d1, d2, d3] }
  | _ => none }
def poolOwnRow : OpenClaim := { program := "ytianifckopijjaa", sum := "50545b07465bd5b72a6bae1f87fabf93a8c9a5d8a4a40333d06ab550ee9fe95b", func := "giro/girolaw8.PoolOwn", spec := "poolOwn", inPlace := ["math/bits.Add64"], named := ["math/bits.divideError", "math/bits.overflowError"], apart := false }
def PoolOwnSaid : Prop := poolOwnRow.holds Try.pinned (OpenSpec.ofChange poolOwnSpec)

/-- ITS FALSE NEIGHBOUR: 'it returns false'. Refute it at one input. -/
def poolOwnWrong : ChangeSpec := { name := "poolOwn", fn := fun _ => fun
  | [d1, d2, d3] => { results := [.lit (.bool false)], args := [d1, d2, d3] }
  | _ => none }
def PoolOwnWrongFalsely : Prop := poolOwnRow.holds Try.pinned (OpenSpec.ofChange poolOwnWrong)

/-- 'girolaw8.PoolParts': WHATEVER THE INPUT: true; the input reads as it did. -/
def poolPartsSpec : ChangeSpec := { name := "poolParts", fn := fun _ => fun
  | [d1, d2, d3] => { results := [.lit (.bool true)], args := [d1, d2, d3] }
  | _ => none }
def poolPartsRow : OpenClaim := { program := "ytianifckopijjaa", sum := "50545b07465bd5b72a6bae1f87fabf93a8c9a5d8a4a40333d06ab550ee9fe95b", func := "giro/girolaw8.PoolParts", spec := "poolParts", inPlace := ["math/bits.Add64"], named := ["math/bits.divideError", "math/bits.overflowError"], apart := false }
def PoolPartsSaid : Prop := poolPartsRow.holds Try.pinned (OpenSpec.ofChange poolPartsSpec)

/-- ITS FALSE NEIGHBOUR: 'it returns false'. Refute it at one input. -/
def poolPartsWrong : ChangeSpec := { name := "poolParts", fn := fun _ => fun
  | [d1, d2, d3] => { results := [.lit (.bool false)], args := [d1, d2, d3] }
  | _ => none }
def PoolPartsWrongFalsely : Prop := poolPartsRow.holds Try.pinned (OpenSpec.ofChange poolPartsWrong)

/- THE SECOND FORM. 'bulk': how many values and letters a reading holds, each counted each time it is reached (what is shared counts as often as it is met; a slice's spare places count too). A statement '..UptoSaid' is the law's where the arguments, and the package variables that the reading takes, are together of bulk at most 1048576: NARROWER than '..Said'. Prove '..Said' where nothing that the law and all that it calls make is longer than what came in: it says more and counts as full. Else prove '..UptoSaid'. A law counts once. -/
mutual
def uptoBulk {H : Type} : DataW H → Nat
  | .lit (.string bytes) => bytes.length + 1
  | .lit _ => 1
  | .nil => 1
  | .ptr d => uptoBulk d + 1
  | .slice elems spare => uptoBulkAll elems + uptoBulkAll spare + 1
  | .agg parts => uptoBulkAll parts + 1
  | .iface _ d => uptoBulk d + 1
  | .map entries => uptoBulkEntries entries + 1
  | .held _ => 1
def uptoBulkAll {H : Type} : List (DataW H) → Nat
  | [] => 0
  | d :: r => uptoBulk d + uptoBulkAll r
def uptoBulkEntries {H : Type} : List (Lit × DataW H) → Nat
  | [] => 0
  | x :: r => uptoBulkEntry x + uptoBulkEntries r
def uptoBulkEntry {H : Type} : Lit × DataW H → Nat
  | (.string bytes, d) => bytes.length + uptoBulk d + 1
  | (_, d) => uptoBulk d + 1
 end
def uptoSmall : (H : Type) → List (DataW H) → Bool := fun _ ds => decide (uptoBulkAll ds ≤ 1048576)
def OpenSpec.upto (s : _root_.Go.ChangeSpec) : _root_.Go.OpenSpec := { _root_.Go.OpenSpec.ofChange s with cond := some uptoSmall }

/-- 'girolaw1.CashSums', WHERE WHAT IT READS IS OF BULK AT MOST 1048576: true; the input reads as it did. -/
def cashSumsUptoRow : OpenClaim := { program := "ytianifckopijjaa", sum := "50545b07465bd5b72a6bae1f87fabf93a8c9a5d8a4a40333d06ab550ee9fe95b", func := "giro/girolaw1.CashSums", spec := "cashSums", inPlace := ["math/bits.Add64"], named := ["math/bits.divideError", "math/bits.overflowError"], apart := false, narrowed := true }
def CashSumsUptoSaid : Prop := cashSumsUptoRow.holds Try.pinned (OpenSpec.upto cashSumsSpec)

/-- 'girolaw1.CashCuts', WHERE WHAT IT READS IS OF BULK AT MOST 1048576: true; the input reads as it did. -/
def cashCutsUptoRow : OpenClaim := { program := "ytianifckopijjaa", sum := "50545b07465bd5b72a6bae1f87fabf93a8c9a5d8a4a40333d06ab550ee9fe95b", func := "giro/girolaw1.CashCuts", spec := "cashCuts", inPlace := ["math/bits.Add64"], named := ["math/bits.divideError", "math/bits.overflowError"], apart := false, narrowed := true }
def CashCutsUptoSaid : Prop := cashCutsUptoRow.holds Try.pinned (OpenSpec.upto cashCutsSpec)

/-- 'girolaw1.CashWorth', WHERE WHAT IT READS IS OF BULK AT MOST 1048576: true; the input reads as it did. -/
def cashWorthUptoRow : OpenClaim := { program := "ytianifckopijjaa", sum := "50545b07465bd5b72a6bae1f87fabf93a8c9a5d8a4a40333d06ab550ee9fe95b", func := "giro/girolaw1.CashWorth", spec := "cashWorth", inPlace := ["math/bits.Add64"], named := ["math/bits.divideError", "math/bits.overflowError"], apart := false, narrowed := true }
def CashWorthUptoSaid : Prop := cashWorthUptoRow.holds Try.pinned (OpenSpec.upto cashWorthSpec)

/-- 'girolaw1.CashKnown', WHERE WHAT IT READS IS OF BULK AT MOST 1048576: true; the input reads as it did. -/
def cashKnownUptoRow : OpenClaim := { program := "ytianifckopijjaa", sum := "50545b07465bd5b72a6bae1f87fabf93a8c9a5d8a4a40333d06ab550ee9fe95b", func := "giro/girolaw1.CashKnown", spec := "cashKnown", inPlace := ["math/bits.Add64"], named := ["math/bits.divideError", "math/bits.overflowError"], apart := false, narrowed := true }
def CashKnownUptoSaid : Prop := cashKnownUptoRow.holds Try.pinned (OpenSpec.upto cashKnownSpec)

/-- 'girolaw1.CashBig', WHERE WHAT IT READS IS OF BULK AT MOST 1048576: true; the input reads as it did. -/
def cashBigUptoRow : OpenClaim := { program := "ytianifckopijjaa", sum := "50545b07465bd5b72a6bae1f87fabf93a8c9a5d8a4a40333d06ab550ee9fe95b", func := "giro/girolaw1.CashBig", spec := "cashBig", inPlace := ["math/bits.Add64"], named := ["math/bits.divideError", "math/bits.overflowError"], apart := false, narrowed := true }
def CashBigUptoSaid : Prop := cashBigUptoRow.holds Try.pinned (OpenSpec.upto cashBigSpec)

/-- 'girolaw1.CashTells', WHERE WHAT IT READS IS OF BULK AT MOST 1048576: true; the input reads as it did. -/
def cashTellsUptoRow : OpenClaim := { program := "ytianifckopijjaa", sum := "50545b07465bd5b72a6bae1f87fabf93a8c9a5d8a4a40333d06ab550ee9fe95b", func := "giro/girolaw1.CashTells", spec := "cashTells", inPlace := ["math/bits.Add64"], named := ["math/bits.divideError", "math/bits.overflowError"], apart := false, narrowed := true }
def CashTellsUptoSaid : Prop := cashTellsUptoRow.holds Try.pinned (OpenSpec.upto cashTellsSpec)

/-- 'girolaw8.PoolTells', WHERE WHAT IT READS IS OF BULK AT MOST 1048576: true; the input reads as it did. -/
def poolTellsUptoRow : OpenClaim := { program := "ytianifckopijjaa", sum := "50545b07465bd5b72a6bae1f87fabf93a8c9a5d8a4a40333d06ab550ee9fe95b", func := "giro/girolaw8.PoolTells", spec := "poolTells", inPlace := ["math/bits.Add64"], named := ["math/bits.divideError", "math/bits.overflowError"], apart := false, narrowed := true }
def PoolTellsUptoSaid : Prop := poolTellsUptoRow.holds Try.pinned (OpenSpec.upto poolTellsSpec)

/-- 'girolaw8.PoolMore', WHERE WHAT IT READS IS OF BULK AT MOST 1048576: true; the input reads as it did. -/
def poolMoreUptoRow : OpenClaim := { program := "ytianifckopijjaa", sum := "50545b07465bd5b72a6bae1f87fabf93a8c9a5d8a4a40333d06ab550ee9fe95b", func := "giro/girolaw8.PoolMore", spec := "poolMore", inPlace := ["math/bits.Add64"], named := ["math/bits.divideError", "math/bits.overflowError"], apart := false, narrowed := true }
def PoolMoreUptoSaid : Prop := poolMoreUptoRow.holds Try.pinned (OpenSpec.upto poolMoreSpec)

/-- 'girolaw8.PoolOwn', WHERE WHAT IT READS IS OF BULK AT MOST 1048576: true; the input reads as it did. -/
def poolOwnUptoRow : OpenClaim := { program := "ytianifckopijjaa", sum := "50545b07465bd5b72a6bae1f87fabf93a8c9a5d8a4a40333d06ab550ee9fe95b", func := "giro/girolaw8.PoolOwn", spec := "poolOwn", inPlace := ["math/bits.Add64"], named := ["math/bits.divideError", "math/bits.overflowError"], apart := false, narrowed := true }
def PoolOwnUptoSaid : Prop := poolOwnUptoRow.holds Try.pinned (OpenSpec.upto poolOwnSpec)

/-- 'girolaw8.PoolParts', WHERE WHAT IT READS IS OF BULK AT MOST 1048576: true; the input reads as it did. -/
def poolPartsUptoRow : OpenClaim := { program := "ytianifckopijjaa", sum := "50545b07465bd5b72a6bae1f87fabf93a8c9a5d8a4a40333d06ab550ee9fe95b", func := "giro/girolaw8.PoolParts", spec := "poolParts", inPlace := ["math/bits.Add64"], named := ["math/bits.divideError", "math/bits.overflowError"], apart := false, narrowed := true }
def PoolPartsUptoSaid : Prop := poolPartsUptoRow.holds Try.pinned (OpenSpec.upto poolPartsSpec)

end Rows
end Go.Proofs.Ytianifckopijjaa
