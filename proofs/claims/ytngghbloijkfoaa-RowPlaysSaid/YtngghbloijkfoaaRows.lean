/-
  No cell of these rows narrows 'for every input' (looked for: loops, veiled, ifaces, maps, wideKeys, modest, calm, conditions, laid).
  DERIVED. THE GIVEN ROWS OF THIS SEAT. 8 by the template 'for every input the law returns true; each argument reads behind the call as it read before'; 0 by the template 'total and deterministic' (their statements: YtngghbloijkfoaaTotals.lean).
  GIVEN WITH THE SEED: the statements are not yours to turn. If you find one false, say at which input.
  Laid BY PROGRAM, IN A SANDBOX (cutbox-rows.mjs): the forced cells as the released guide's own fill.sh prints them over the translation a9dc07510a26100b… (all of the seat's roots in one cut). By AI agents, Wed Nov 11 2026. No macro, syntax, notation, axiom, sorry.
-/
import Derived.Test.YtngghbloijkfoaaChecked
import GoSem.Claim
import GoSem.ClaimJoined
import GoSem.ClaimMapViews
import Derived.JoinedTies
import Derived.KernelRfl
namespace Go.Proofs.Ytngghbloijkfoaa
/- THE CELL 'sum', in the pinned program and in every row, IS THE sha256 OF THE DUMP (.gsa) THAT YtngghbloijkfoaaProg.lean LOADS. Nothing in Lean hashes anything: it is a label: what it is worth is what the hold of that sum in a sandbox is worth. -/
noncomputable def Try.pinned : Pinned := { name := "ytngghbloijkfoaa", sum := "a9dc07510a26100b28fd3cc951b9245319c6a47b41533060d8ee113afc3d4a6f", checked := Try.checked }
namespace Rows
def none {H : Type} : Left H := { results := [], args := [] }

/-- 'girolaw12.IdsTells': WHATEVER THE INPUT: true; the input reads as it did. -/
def idsTellsSpec : ChangeSpec := { name := "idsTells", fn := fun _ => fun
  | [d1, d2] => { results := [.lit (.bool true)], args := [d1, d2] }
  | _ => none }
def idsTellsRow : OpenClaim := { program := "ytngghbloijkfoaa", sum := "a9dc07510a26100b28fd3cc951b9245319c6a47b41533060d8ee113afc3d4a6f", func := "giro/girolaw12.IdsTells", spec := "idsTells", inPlace := ["slices.overlaps[int64]"], apart := false }
def IdsTellsSaid : Prop := idsTellsRow.holds Try.pinned (OpenSpec.ofChange idsTellsSpec)

/-- ITS FALSE NEIGHBOUR: 'it returns false'. Refute it at one input. -/
def idsTellsWrong : ChangeSpec := { name := "idsTells", fn := fun _ => fun
  | [d1, d2] => { results := [.lit (.bool false)], args := [d1, d2] }
  | _ => none }
def IdsTellsWrongFalsely : Prop := idsTellsRow.holds Try.pinned (OpenSpec.ofChange idsTellsWrong)

/-- 'girolaw12.IdsAll': WHATEVER THE INPUT: true; the input reads as it did. -/
def idsAllSpec : ChangeSpec := { name := "idsAll", fn := fun _ => fun
  | [d] => { results := [.lit (.bool true)], args := [d] }
  | _ => none }
def idsAllRow : OpenClaim := { program := "ytngghbloijkfoaa", sum := "a9dc07510a26100b28fd3cc951b9245319c6a47b41533060d8ee113afc3d4a6f", func := "giro/girolaw12.IdsAll", spec := "idsAll", inPlace := ["slices.overlaps[int64]"], apart := false }
def IdsAllSaid : Prop := idsAllRow.holds Try.pinned (OpenSpec.ofChange idsAllSpec)

/-- ITS FALSE NEIGHBOUR: 'it returns false'. Refute it at one input. -/
def idsAllWrong : ChangeSpec := { name := "idsAll", fn := fun _ => fun
  | [d] => { results := [.lit (.bool false)], args := [d] }
  | _ => none }
def IdsAllWrongFalsely : Prop := idsAllRow.holds Try.pinned (OpenSpec.ofChange idsAllWrong)

/-- 'girolaw12.IdsFull': WHATEVER THE INPUT: true; the input reads as it did. -/
def idsFullSpec : ChangeSpec := { name := "idsFull", fn := fun _ => fun
  | [d1, d2] => { results := [.lit (.bool true)], args := [d1, d2] }
  | _ => none }
def idsFullRow : OpenClaim := { program := "ytngghbloijkfoaa", sum := "a9dc07510a26100b28fd3cc951b9245319c6a47b41533060d8ee113afc3d4a6f", func := "giro/girolaw12.IdsFull", spec := "idsFull", inPlace := ["slices.overlaps[int64]"], apart := false }
def IdsFullSaid : Prop := idsFullRow.holds Try.pinned (OpenSpec.ofChange idsFullSpec)

/-- ITS FALSE NEIGHBOUR: 'it returns false'. Refute it at one input. -/
def idsFullWrong : ChangeSpec := { name := "idsFull", fn := fun _ => fun
  | [d1, d2] => { results := [.lit (.bool false)], args := [d1, d2] }
  | _ => none }
def IdsFullWrongFalsely : Prop := idsFullRow.holds Try.pinned (OpenSpec.ofChange idsFullWrong)

/-- 'girolaw13.RowIs': WHATEVER THE INPUT: true; the input reads as it did. -/
def rowIsSpec : ChangeSpec := { name := "rowIs", fn := fun _ => fun
  | [d] => { results := [.lit (.bool true)], args := [d] }
  | _ => none }
def rowIsRow : OpenClaim := { program := "ytngghbloijkfoaa", sum := "a9dc07510a26100b28fd3cc951b9245319c6a47b41533060d8ee113afc3d4a6f", func := "giro/girolaw13.RowIs", spec := "rowIs", inPlace := ["slices.overlaps[giro/api.Pay]"], unfollowed := true, recurses := true, apart := false }
def RowIsSaid : Prop := rowIsRow.holds Try.pinned (OpenSpec.ofChange rowIsSpec)

/-- ITS FALSE NEIGHBOUR: 'it returns false'. Refute it at one input. -/
def rowIsWrong : ChangeSpec := { name := "rowIs", fn := fun _ => fun
  | [d] => { results := [.lit (.bool false)], args := [d] }
  | _ => none }
def RowIsWrongFalsely : Prop := rowIsRow.holds Try.pinned (OpenSpec.ofChange rowIsWrong)

/-- 'girolaw13.RowFull': WHATEVER THE INPUT: true; the input reads as it did. -/
def rowFullSpec : ChangeSpec := { name := "rowFull", fn := fun _ => fun
  | [d] => { results := [.lit (.bool true)], args := [d] }
  | _ => none }
def rowFullRow : OpenClaim := { program := "ytngghbloijkfoaa", sum := "a9dc07510a26100b28fd3cc951b9245319c6a47b41533060d8ee113afc3d4a6f", func := "giro/girolaw13.RowFull", spec := "rowFull", inPlace := ["slices.overlaps[giro/api.Pay]"], unfollowed := true, recurses := true, apart := false }
def RowFullSaid : Prop := rowFullRow.holds Try.pinned (OpenSpec.ofChange rowFullSpec)

/-- ITS FALSE NEIGHBOUR: 'it returns false'. Refute it at one input. -/
def rowFullWrong : ChangeSpec := { name := "rowFull", fn := fun _ => fun
  | [d] => { results := [.lit (.bool false)], args := [d] }
  | _ => none }
def RowFullWrongFalsely : Prop := rowFullRow.holds Try.pinned (OpenSpec.ofChange rowFullWrong)

/-- 'girolaw13.RowClass': WHATEVER THE INPUT: true; the input reads as it did. -/
def rowClassSpec : ChangeSpec := { name := "rowClass", fn := fun _ => fun
  | [d1, d2, d3] => { results := [.lit (.bool true)], args := [d1, d2, d3] }
  | _ => none }
def rowClassRow : OpenClaim := { program := "ytngghbloijkfoaa", sum := "a9dc07510a26100b28fd3cc951b9245319c6a47b41533060d8ee113afc3d4a6f", func := "giro/girolaw13.RowClass", spec := "rowClass", inPlace := ["slices.overlaps[giro/api.Pay]"], unfollowed := true, recurses := true, apart := false }
def RowClassSaid : Prop := rowClassRow.holds Try.pinned (OpenSpec.ofChange rowClassSpec)

/-- ITS FALSE NEIGHBOUR: 'it returns false'. Refute it at one input. -/
def rowClassWrong : ChangeSpec := { name := "rowClass", fn := fun _ => fun
  | [d1, d2, d3] => { results := [.lit (.bool false)], args := [d1, d2, d3] }
  | _ => none }
def RowClassWrongFalsely : Prop := rowClassRow.holds Try.pinned (OpenSpec.ofChange rowClassWrong)

/-- 'girolaw13.RowOrder': WHATEVER THE INPUT: true; the input reads as it did. -/
def rowOrderSpec : ChangeSpec := { name := "rowOrder", fn := fun _ => fun
  | [d1, d2, d3] => { results := [.lit (.bool true)], args := [d1, d2, d3] }
  | _ => none }
def rowOrderRow : OpenClaim := { program := "ytngghbloijkfoaa", sum := "a9dc07510a26100b28fd3cc951b9245319c6a47b41533060d8ee113afc3d4a6f", func := "giro/girolaw13.RowOrder", spec := "rowOrder", inPlace := ["slices.overlaps[giro/api.Pay]"], unfollowed := true, recurses := true, apart := false }
def RowOrderSaid : Prop := rowOrderRow.holds Try.pinned (OpenSpec.ofChange rowOrderSpec)

/-- ITS FALSE NEIGHBOUR: 'it returns false'. Refute it at one input. -/
def rowOrderWrong : ChangeSpec := { name := "rowOrder", fn := fun _ => fun
  | [d1, d2, d3] => { results := [.lit (.bool false)], args := [d1, d2, d3] }
  | _ => none }
def RowOrderWrongFalsely : Prop := rowOrderRow.holds Try.pinned (OpenSpec.ofChange rowOrderWrong)

/-- 'girolaw13.RowPlays': WHATEVER THE INPUT: true; the input reads as it did. -/
def rowPlaysSpec : ChangeSpec := { name := "rowPlays", fn := fun _ => fun
  | [d] => { results := [.lit (.bool true)], args := [d] }
  | _ => none }
def rowPlaysRow : OpenClaim := { program := "ytngghbloijkfoaa", sum := "a9dc07510a26100b28fd3cc951b9245319c6a47b41533060d8ee113afc3d4a6f", func := "giro/girolaw13.RowPlays", spec := "rowPlays", inPlace := ["slices.overlaps[giro/api.Pay]"], unfollowed := true, recurses := true, apart := false }
def RowPlaysSaid : Prop := rowPlaysRow.holds Try.pinned (OpenSpec.ofChange rowPlaysSpec)

/-- ITS FALSE NEIGHBOUR: 'it returns false'. Refute it at one input. -/
def rowPlaysWrong : ChangeSpec := { name := "rowPlays", fn := fun _ => fun
  | [d] => { results := [.lit (.bool false)], args := [d] }
  | _ => none }
def RowPlaysWrongFalsely : Prop := rowPlaysRow.holds Try.pinned (OpenSpec.ofChange rowPlaysWrong)

/- THE SECOND FORM. 'bulk': how many values and letters a reading holds, each counted each time it is reached (what is shared counts as often as it is met; a slice's spare places count too). A statement '..UptoSaid' is the law's where the arguments, and the package variables that the reading takes, are together of bulk at most 1048576: NARROWER than '..Said'. Prove '..Said' where nothing that the law and all that it calls make is longer than what came in: it says more and counts as full. Else prove '..UptoSaid'. A law counts once. -/
mutual
def uptoBulk {H : Type} : DataW H → Nat
  | .lit (.string bytes) => bytes.length + 1
  | .lit _ => 1
  | .nil => 1
  | .ptr d => uptoBulk d + 1
  | .slice elems spare => uptoBulkAll elems + uptoBulkAll spare + 1
  | .agg parts => uptoBulkAll parts + 1
  | .iface _ d => uptoBulk d + 1
  | .map entries => uptoBulkEntries entries + 1
  | .held _ => 1
def uptoBulkAll {H : Type} : List (DataW H) → Nat
  | [] => 0
  | d :: r => uptoBulk d + uptoBulkAll r
def uptoBulkEntries {H : Type} : List (Lit × DataW H) → Nat
  | [] => 0
  | x :: r => uptoBulkEntry x + uptoBulkEntries r
def uptoBulkEntry {H : Type} : Lit × DataW H → Nat
  | (.string bytes, d) => bytes.length + uptoBulk d + 1
  | (_, d) => uptoBulk d + 1
 end
def uptoSmall : (H : Type) → List (DataW H) → Bool := fun _ ds => decide (uptoBulkAll ds ≤ 1048576)
def OpenSpec.upto (s : _root_.Go.ChangeSpec) : _root_.Go.OpenSpec := { _root_.Go.OpenSpec.ofChange s with cond := some uptoSmall }

/-- 'girolaw12.IdsTells', WHERE WHAT IT READS IS OF BULK AT MOST 1048576: true; the input reads as it did. -/
def idsTellsUptoRow : OpenClaim := { program := "ytngghbloijkfoaa", sum := "a9dc07510a26100b28fd3cc951b9245319c6a47b41533060d8ee113afc3d4a6f", func := "giro/girolaw12.IdsTells", spec := "idsTells", inPlace := ["slices.overlaps[int64]"], apart := false, narrowed := true }
def IdsTellsUptoSaid : Prop := idsTellsUptoRow.holds Try.pinned (OpenSpec.upto idsTellsSpec)

/-- 'girolaw12.IdsAll', WHERE WHAT IT READS IS OF BULK AT MOST 1048576: true; the input reads as it did. -/
def idsAllUptoRow : OpenClaim := { program := "ytngghbloijkfoaa", sum := "a9dc07510a26100b28fd3cc951b9245319c6a47b41533060d8ee113afc3d4a6f", func := "giro/girolaw12.IdsAll", spec := "idsAll", inPlace := ["slices.overlaps[int64]"], apart := false, narrowed := true }
def IdsAllUptoSaid : Prop := idsAllUptoRow.holds Try.pinned (OpenSpec.upto idsAllSpec)

/-- 'girolaw12.IdsFull', WHERE WHAT IT READS IS OF BULK AT MOST 1048576: true; the input reads as it did. -/
def idsFullUptoRow : OpenClaim := { program := "ytngghbloijkfoaa", sum := "a9dc07510a26100b28fd3cc951b9245319c6a47b41533060d8ee113afc3d4a6f", func := "giro/girolaw12.IdsFull", spec := "idsFull", inPlace := ["slices.overlaps[int64]"], apart := false, narrowed := true }
def IdsFullUptoSaid : Prop := idsFullUptoRow.holds Try.pinned (OpenSpec.upto idsFullSpec)

/-- 'girolaw13.RowIs', WHERE WHAT IT READS IS OF BULK AT MOST 1048576: true; the input reads as it did. -/
def rowIsUptoRow : OpenClaim := { program := "ytngghbloijkfoaa", sum := "a9dc07510a26100b28fd3cc951b9245319c6a47b41533060d8ee113afc3d4a6f", func := "giro/girolaw13.RowIs", spec := "rowIs", inPlace := ["slices.overlaps[giro/api.Pay]"], unfollowed := true, recurses := true, apart := false, narrowed := true }
def RowIsUptoSaid : Prop := rowIsUptoRow.holds Try.pinned (OpenSpec.upto rowIsSpec)

/-- 'girolaw13.RowFull', WHERE WHAT IT READS IS OF BULK AT MOST 1048576: true; the input reads as it did. -/
def rowFullUptoRow : OpenClaim := { program := "ytngghbloijkfoaa", sum := "a9dc07510a26100b28fd3cc951b9245319c6a47b41533060d8ee113afc3d4a6f", func := "giro/girolaw13.RowFull", spec := "rowFull", inPlace := ["slices.overlaps[giro/api.Pay]"], unfollowed := true, recurses := true, apart := false, narrowed := true }
def RowFullUptoSaid : Prop := rowFullUptoRow.holds Try.pinned (OpenSpec.upto rowFullSpec)

/-- 'girolaw13.RowClass', WHERE WHAT IT READS IS OF BULK AT MOST 1048576: true; the input reads as it did. -/
def rowClassUptoRow : OpenClaim := { program := "ytngghbloijkfoaa", sum := "a9dc07510a26100b28fd3cc951b9245319c6a47b41533060d8ee113afc3d4a6f", func := "giro/girolaw13.RowClass", spec := "rowClass", inPlace := ["slices.overlaps[giro/api.Pay]"], unfollowed := true, recurses := true, apart := false, narrowed := true }
def RowClassUptoSaid : Prop := rowClassUptoRow.holds Try.pinned (OpenSpec.upto rowClassSpec)

/-- 'girolaw13.RowOrder', WHERE WHAT IT READS IS OF BULK AT MOST 1048576: true; the input reads as it did. -/
def rowOrderUptoRow : OpenClaim := { program := "ytngghbloijkfoaa", sum := "a9dc07510a26100b28fd3cc951b9245319c6a47b41533060d8ee113afc3d4a6f", func := "giro/girolaw13.RowOrder", spec := "rowOrder", inPlace := ["slices.overlaps[giro/api.Pay]"], unfollowed := true, recurses := true, apart := false, narrowed := true }
def RowOrderUptoSaid : Prop := rowOrderUptoRow.holds Try.pinned (OpenSpec.upto rowOrderSpec)

/-- 'girolaw13.RowPlays', WHERE WHAT IT READS IS OF BULK AT MOST 1048576: true; the input reads as it did. -/
def rowPlaysUptoRow : OpenClaim := { program := "ytngghbloijkfoaa", sum := "a9dc07510a26100b28fd3cc951b9245319c6a47b41533060d8ee113afc3d4a6f", func := "giro/girolaw13.RowPlays", spec := "rowPlays", inPlace := ["slices.overlaps[giro/api.Pay]"], unfollowed := true, recurses := true, apart := false, narrowed := true }
def RowPlaysUptoSaid : Prop := rowPlaysUptoRow.holds Try.pinned (OpenSpec.upto rowPlaysSpec)

end Rows
end Go.Proofs.Ytngghbloijkfoaa
