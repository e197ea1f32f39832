/-
  No cell of these rows narrows 'for every input' (looked for: loops, veiled, ifaces, maps, wideKeys, modest, calm, conditions, laid).
  DERIVED. THE GIVEN ROWS OF THIS SEAT. 7 by the template 'for every input the law returns true; each argument reads behind the call as it read before'; 0 by the template 'total and deterministic' (their statements: YtakapalpcglfaaaTotals.lean).
  GIVEN WITH THE SEED: the statements are not yours to turn. If you find one false, say at which input.
  Laid BY PROGRAM, IN A SANDBOX (cutbox-rows.mjs): the forced cells as the released guide's own fill.sh prints them over the translation 94a95a8f845f801f… (all of the seat's roots in one cut). By AI agents, Wed Nov 11 2026. No macro, syntax, notation, axiom, sorry.
-/
import Derived.Test.YtakapalpcglfaaaChecked
import GoSem.Claim
import GoSem.ClaimJoined
import GoSem.ClaimMapViews
import Derived.JoinedTies
import Derived.KernelRfl
namespace Go.Proofs.Ytakapalpcglfaaa
/- THE CELL 'sum', in the pinned program and in every row, IS THE sha256 OF THE DUMP (.gsa) THAT YtakapalpcglfaaaProg.lean LOADS. Nothing in Lean hashes anything: it is a label: what it is worth is what the hold of that sum in a sandbox is worth. -/
noncomputable def Try.pinned : Pinned := { name := "ytakapalpcglfaaa", sum := "94a95a8f845f801f1fa8f1d539fdfa00d4a62245d4f0eecdfec31c16b8df0a9d", checked := Try.checked }
namespace Rows
def none {H : Type} : Left H := { results := [], args := [] }

/-- 'girolaw9.AcctRoom': WHATEVER THE INPUT: true; the input reads as it did. -/
def acctRoomSpec : ChangeSpec := { name := "acctRoom", fn := fun _ => fun
  | [d1, d2] => { results := [.lit (.bool true)], args := [d1, d2] }
  | _ => none }
def acctRoomRow : OpenClaim := { program := "ytakapalpcglfaaa", sum := "94a95a8f845f801f1fa8f1d539fdfa00d4a62245d4f0eecdfec31c16b8df0a9d", func := "giro/girolaw9.AcctRoom", spec := "acctRoom", apart := false }
def AcctRoomSaid : Prop := acctRoomRow.holds Try.pinned (OpenSpec.ofChange acctRoomSpec)

/-- ITS FALSE NEIGHBOUR: 'it returns false'. Refute it at one input. -/
def acctRoomWrong : ChangeSpec := { name := "acctRoom", fn := fun _ => fun
  | [d1, d2] => { results := [.lit (.bool false)], args := [d1, d2] }
  | _ => none }
def AcctRoomWrongFalsely : Prop := acctRoomRow.holds Try.pinned (OpenSpec.ofChange acctRoomWrong)

/-- 'girolaw9.AcctTells': WHATEVER THE INPUT: true; the input reads as it did. -/
def acctTellsSpec : ChangeSpec := { name := "acctTells", fn := fun _ => fun
  | [d1, d2, d3] => { results := [.lit (.bool true)], args := [d1, d2, d3] }
  | _ => none }
def acctTellsRow : OpenClaim := { program := "ytakapalpcglfaaa", sum := "94a95a8f845f801f1fa8f1d539fdfa00d4a62245d4f0eecdfec31c16b8df0a9d", func := "giro/girolaw9.AcctTells", spec := "acctTells", apart := false }
def AcctTellsSaid : Prop := acctTellsRow.holds Try.pinned (OpenSpec.ofChange acctTellsSpec)

/-- ITS FALSE NEIGHBOUR: 'it returns false'. Refute it at one input. -/
def acctTellsWrong : ChangeSpec := { name := "acctTells", fn := fun _ => fun
  | [d1, d2, d3] => { results := [.lit (.bool false)], args := [d1, d2, d3] }
  | _ => none }
def AcctTellsWrongFalsely : Prop := acctTellsRow.holds Try.pinned (OpenSpec.ofChange acctTellsWrong)

/-- 'girolaw9.AcctBack': WHATEVER THE INPUT: true; the input reads as it did. -/
def acctBackSpec : ChangeSpec := { name := "acctBack", fn := fun _ => fun
  | [d1, d2, d3] => { results := [.lit (.bool true)], args := [d1, d2, d3] }
  | _ => none }
def acctBackRow : OpenClaim := { program := "ytakapalpcglfaaa", sum := "94a95a8f845f801f1fa8f1d539fdfa00d4a62245d4f0eecdfec31c16b8df0a9d", func := "giro/girolaw9.AcctBack", spec := "acctBack", apart := false }
def AcctBackSaid : Prop := acctBackRow.holds Try.pinned (OpenSpec.ofChange acctBackSpec)

/-- ITS FALSE NEIGHBOUR: 'it returns false'. Refute it at one input. -/
def acctBackWrong : ChangeSpec := { name := "acctBack", fn := fun _ => fun
  | [d1, d2, d3] => { results := [.lit (.bool false)], args := [d1, d2, d3] }
  | _ => none }
def AcctBackWrongFalsely : Prop := acctBackRow.holds Try.pinned (OpenSpec.ofChange acctBackWrong)

/-- 'girolaw9.AcctKnown': WHATEVER THE INPUT: true; the input reads as it did. -/
def acctKnownSpec : ChangeSpec := { name := "acctKnown", fn := fun _ => fun
  | [d] => { results := [.lit (.bool true)], args := [d] }
  | _ => none }
def acctKnownRow : OpenClaim := { program := "ytakapalpcglfaaa", sum := "94a95a8f845f801f1fa8f1d539fdfa00d4a62245d4f0eecdfec31c16b8df0a9d", func := "giro/girolaw9.AcctKnown", spec := "acctKnown", apart := false }
def AcctKnownSaid : Prop := acctKnownRow.holds Try.pinned (OpenSpec.ofChange acctKnownSpec)

/-- ITS FALSE NEIGHBOUR: 'it returns false'. Refute it at one input. -/
def acctKnownWrong : ChangeSpec := { name := "acctKnown", fn := fun _ => fun
  | [d] => { results := [.lit (.bool false)], args := [d] }
  | _ => none }
def AcctKnownWrongFalsely : Prop := acctKnownRow.holds Try.pinned (OpenSpec.ofChange acctKnownWrong)

/-- 'girolaw17.MostTells': WHATEVER THE INPUT: true; the input reads as it did. -/
def mostTellsSpec : ChangeSpec := { name := "mostTells", fn := fun _ => fun
  | [d1, d2, d3, d4] => { results := [.lit (.bool true)], args := [d1, d2, d3, d4] }
  | _ => none }
def mostTellsRow : OpenClaim := { program := "ytakapalpcglfaaa", sum := "94a95a8f845f801f1fa8f1d539fdfa00d4a62245d4f0eecdfec31c16b8df0a9d", func := "giro/girolaw17.MostTells", spec := "mostTells", apart := false }
def MostTellsSaid : Prop := mostTellsRow.holds Try.pinned (OpenSpec.ofChange mostTellsSpec)

/-- ITS FALSE NEIGHBOUR: 'it returns false'. Refute it at one input. -/
def mostTellsWrong : ChangeSpec := { name := "mostTells", fn := fun _ => fun
  | [d1, d2, d3, d4] => { results := [.lit (.bool false)], args := [d1, d2, d3, d4] }
  | _ => none }
def MostTellsWrongFalsely : Prop := mostTellsRow.holds Try.pinned (OpenSpec.ofChange mostTellsWrong)

/-- 'girolaw17.MostEdge': WHATEVER THE INPUT: true; the input reads as it did. -/
def mostEdgeSpec : ChangeSpec := { name := "mostEdge", fn := fun _ => fun
  | [d1, d2, d3, d4, d5] => { results := [.lit (.bool true)], args := [d1, d2, d3, d4, d5] }
  | _ => none }
def mostEdgeRow : OpenClaim := { program := "ytakapalpcglfaaa", sum := "94a95a8f845f801f1fa8f1d539fdfa00d4a62245d4f0eecdfec31c16b8df0a9d", func := "giro/girolaw17.MostEdge", spec := "mostEdge", apart := false }
def MostEdgeSaid : Prop := mostEdgeRow.holds Try.pinned (OpenSpec.ofChange mostEdgeSpec)

/-- ITS FALSE NEIGHBOUR: 'it returns false'. Refute it at one input. -/
def mostEdgeWrong : ChangeSpec := { name := "mostEdge", fn := fun _ => fun
  | [d1, d2, d3, d4, d5] => { results := [.lit (.bool false)], args := [d1, d2, d3, d4, d5] }
  | _ => none }
def MostEdgeWrongFalsely : Prop := mostEdgeRow.holds Try.pinned (OpenSpec.ofChange mostEdgeWrong)

/-- 'girolaw17.MostBounds': WHATEVER THE INPUT: true; the input reads as it did. -/
def mostBoundsSpec : ChangeSpec := { name := "mostBounds", fn := fun _ => fun
  | [d1, d2, d3, d4, d5, d6] => { results := [.lit (.bool true)], args := [d1, d2, d3, d4, d5, d6] }
  | _ => none }
def mostBoundsRow : OpenClaim := { program := "ytakapalpcglfaaa", sum := "94a95a8f845f801f1fa8f1d539fdfa00d4a62245d4f0eecdfec31c16b8df0a9d", func := "giro/girolaw17.MostBounds", spec := "mostBounds", apart := false }
def MostBoundsSaid : Prop := mostBoundsRow.holds Try.pinned (OpenSpec.ofChange mostBoundsSpec)

/-- ITS FALSE NEIGHBOUR: 'it returns false'. Refute it at one input. -/
def mostBoundsWrong : ChangeSpec := { name := "mostBounds", fn := fun _ => fun
  | [d1, d2, d3, d4, d5, d6] => { results := [.lit (.bool false)], args := [d1, d2, d3, d4, d5, d6] }
  | _ => none }
def MostBoundsWrongFalsely : Prop := mostBoundsRow.holds Try.pinned (OpenSpec.ofChange mostBoundsWrong)

/- THE SECOND FORM. 'bulk': how many values and letters a reading holds, each counted each time it is reached (what is shared counts as often as it is met; a slice's spare places count too). A statement '..UptoSaid' is the law's where the arguments, and the package variables that the reading takes, are together of bulk at most 1048576: NARROWER than '..Said'. Prove '..Said' where nothing that the law and all that it calls make is longer than what came in: it says more and counts as full. Else prove '..UptoSaid'. A law counts once. -/
mutual
def uptoBulk {H : Type} : DataW H → Nat
  | .lit (.string bytes) => bytes.length + 1
  | .lit _ => 1
  | .nil => 1
  | .ptr d => uptoBulk d + 1
  | .slice elems spare => uptoBulkAll elems + uptoBulkAll spare + 1
  | .agg parts => uptoBulkAll parts + 1
  | .iface _ d => uptoBulk d + 1
  | .map entries => uptoBulkEntries entries + 1
  | .held _ => 1
def uptoBulkAll {H : Type} : List (DataW H) → Nat
  | [] => 0
  | d :: r => uptoBulk d + uptoBulkAll r
def uptoBulkEntries {H : Type} : List (Lit × DataW H) → Nat
  | [] => 0
  | x :: r => uptoBulkEntry x + uptoBulkEntries r
def uptoBulkEntry {H : Type} : Lit × DataW H → Nat
  | (.string bytes, d) => bytes.length + uptoBulk d + 1
  | (_, d) => uptoBulk d + 1
 end
def uptoSmall : (H : Type) → List (DataW H) → Bool := fun _ ds => decide (uptoBulkAll ds ≤ 1048576)
def OpenSpec.upto (s : _root_.Go.ChangeSpec) : _root_.Go.OpenSpec := { _root_.Go.OpenSpec.ofChange s with cond := some uptoSmall }

/-- 'girolaw9.AcctRoom', WHERE WHAT IT READS IS OF BULK AT MOST 1048576: true; the input reads as it did. -/
def acctRoomUptoRow : OpenClaim := { program := "ytakapalpcglfaaa", sum := "94a95a8f845f801f1fa8f1d539fdfa00d4a62245d4f0eecdfec31c16b8df0a9d", func := "giro/girolaw9.AcctRoom", spec := "acctRoom", apart := false, narrowed := true }
def AcctRoomUptoSaid : Prop := acctRoomUptoRow.holds Try.pinned (OpenSpec.upto acctRoomSpec)

/-- 'girolaw9.AcctTells', WHERE WHAT IT READS IS OF BULK AT MOST 1048576: true; the input reads as it did. -/
def acctTellsUptoRow : OpenClaim := { program := "ytakapalpcglfaaa", sum := "94a95a8f845f801f1fa8f1d539fdfa00d4a62245d4f0eecdfec31c16b8df0a9d", func := "giro/girolaw9.AcctTells", spec := "acctTells", apart := false, narrowed := true }
def AcctTellsUptoSaid : Prop := acctTellsUptoRow.holds Try.pinned (OpenSpec.upto acctTellsSpec)

/-- 'girolaw9.AcctBack', WHERE WHAT IT READS IS OF BULK AT MOST 1048576: true; the input reads as it did. -/
def acctBackUptoRow : OpenClaim := { program := "ytakapalpcglfaaa", sum := "94a95a8f845f801f1fa8f1d539fdfa00d4a62245d4f0eecdfec31c16b8df0a9d", func := "giro/girolaw9.AcctBack", spec := "acctBack", apart := false, narrowed := true }
def AcctBackUptoSaid : Prop := acctBackUptoRow.holds Try.pinned (OpenSpec.upto acctBackSpec)

/-- 'girolaw9.AcctKnown', WHERE WHAT IT READS IS OF BULK AT MOST 1048576: true; the input reads as it did. -/
def acctKnownUptoRow : OpenClaim := { program := "ytakapalpcglfaaa", sum := "94a95a8f845f801f1fa8f1d539fdfa00d4a62245d4f0eecdfec31c16b8df0a9d", func := "giro/girolaw9.AcctKnown", spec := "acctKnown", apart := false, narrowed := true }
def AcctKnownUptoSaid : Prop := acctKnownUptoRow.holds Try.pinned (OpenSpec.upto acctKnownSpec)

/-- 'girolaw17.MostTells', WHERE WHAT IT READS IS OF BULK AT MOST 1048576: true; the input reads as it did. -/
def mostTellsUptoRow : OpenClaim := { program := "ytakapalpcglfaaa", sum := "94a95a8f845f801f1fa8f1d539fdfa00d4a62245d4f0eecdfec31c16b8df0a9d", func := "giro/girolaw17.MostTells", spec := "mostTells", apart := false, narrowed := true }
def MostTellsUptoSaid : Prop := mostTellsUptoRow.holds Try.pinned (OpenSpec.upto mostTellsSpec)

/-- 'girolaw17.MostEdge', WHERE WHAT IT READS IS OF BULK AT MOST 1048576: true; the input reads as it did. -/
def mostEdgeUptoRow : OpenClaim := { program := "ytakapalpcglfaaa", sum := "94a95a8f845f801f1fa8f1d539fdfa00d4a62245d4f0eecdfec31c16b8df0a9d", func := "giro/girolaw17.MostEdge", spec := "mostEdge", apart := false, narrowed := true }
def MostEdgeUptoSaid : Prop := mostEdgeUptoRow.holds Try.pinned (OpenSpec.upto mostEdgeSpec)

/-- 'girolaw17.MostBounds', WHERE WHAT IT READS IS OF BULK AT MOST 1048576: true; the input reads as it did. -/
def mostBoundsUptoRow : OpenClaim := { program := "ytakapalpcglfaaa", sum := "94a95a8f845f801f1fa8f1d539fdfa00d4a62245d4f0eecdfec31c16b8df0a9d", func := "giro/girolaw17.MostBounds", spec := "mostBounds", apart := false, narrowed := true }
def MostBoundsUptoSaid : Prop := mostBoundsUptoRow.holds Try.pinned (OpenSpec.upto mostBoundsSpec)

end Rows
end Go.Proofs.Ytakapalpcglfaaa
