/-
  No cell of these rows narrows 'for every input' (looked for: loops, veiled, ifaces, maps, wideKeys, modest, calm, conditions, laid).
  DERIVED. THE GIVEN ROWS OF THIS SEAT. 4 by the template 'for every input the law returns true; each argument reads behind the call as it read before'; 0 by the template 'total and deterministic' (their statements: YtjejjokdbbedlaaTotals.lean).
  GIVEN WITH THE SEED: the statements are not yours to turn. If you find one false, say at which input.
  Laid BY PROGRAM, IN A SANDBOX (cutbox-rows.mjs): the forced cells as the released guide's own fill.sh prints them over the translation 200ea170559cdda4… (all of the seat's roots in one cut). By AI agents, Wed Nov 11 2026. No macro, syntax, notation, axiom, sorry.
-/
import Derived.Test.YtjejjokdbbedlaaChecked
import GoSem.Claim
import GoSem.ClaimJoined
import GoSem.ClaimMapViews
import Derived.JoinedTies
import Derived.KernelRfl
namespace Go.Proofs.Ytjejjokdbbedlaa
/- THE CELL 'sum', in the pinned program and in every row, IS THE sha256 OF THE DUMP (.gsa) THAT YtjejjokdbbedlaaProg.lean LOADS. Nothing in Lean hashes anything: it is a label: what it is worth is what the hold of that sum in a sandbox is worth. -/
noncomputable def Try.pinned : Pinned := { name := "ytjejjokdbbedlaa", sum := "200ea170559cdda489aa46cc87f21358eff16d3095c15c6cb52b403ac842be0c", checked := Try.checked }
namespace Rows
def none {H : Type} : Left H := { results := [], args := [] }

/-- 'girolaw14.ViewMay': WHATEVER THE INPUT: true; the input reads as it did. -/
def viewMaySpec : ChangeSpec := { name := "viewMay", fn := fun _ => fun
  | [d1, d2] => { results := [.lit (.bool true)], args := [d1, d2] }
  | _ => none }
def viewMayRow : OpenClaim := { program := "ytjejjokdbbedlaa", sum := "200ea170559cdda489aa46cc87f21358eff16d3095c15c6cb52b403ac842be0c", func := "giro/girolaw14.ViewMay", spec := "viewMay", unfollowed := true, recurses := true, apart := false }
def ViewMaySaid : Prop := viewMayRow.holds Try.pinned (OpenSpec.ofChange viewMaySpec)

/-- ITS FALSE NEIGHBOUR: 'it returns false'. Refute it at one input. -/
def viewMayWrong : ChangeSpec := { name := "viewMay", fn := fun _ => fun
  | [d1, d2] => { results := [.lit (.bool false)], args := [d1, d2] }
  | _ => none }
def ViewMayWrongFalsely : Prop := viewMayRow.holds Try.pinned (OpenSpec.ofChange viewMayWrong)

/-- 'girolaw14.ViewHeads': WHATEVER THE INPUT: true; the input reads as it did. -/
def viewHeadsSpec : ChangeSpec := { name := "viewHeads", fn := fun _ => fun
  | [d1, d2] => { results := [.lit (.bool true)], args := [d1, d2] }
  | _ => none }
def viewHeadsRow : OpenClaim := { program := "ytjejjokdbbedlaa", sum := "200ea170559cdda489aa46cc87f21358eff16d3095c15c6cb52b403ac842be0c", func := "giro/girolaw14.ViewHeads", spec := "viewHeads", unfollowed := true, recurses := true, apart := false }
def ViewHeadsSaid : Prop := viewHeadsRow.holds Try.pinned (OpenSpec.ofChange viewHeadsSpec)

/-- ITS FALSE NEIGHBOUR: 'it returns false'. Refute it at one input. -/
def viewHeadsWrong : ChangeSpec := { name := "viewHeads", fn := fun _ => fun
  | [d1, d2] => { results := [.lit (.bool false)], args := [d1, d2] }
  | _ => none }
def ViewHeadsWrongFalsely : Prop := viewHeadsRow.holds Try.pinned (OpenSpec.ofChange viewHeadsWrong)

/-- 'girolaw14.ViewTells': WHATEVER THE INPUT: true; the input reads as it did. -/
def viewTellsSpec : ChangeSpec := { name := "viewTells", fn := fun _ => fun
  | [d1, d2, d3, d4] => { results := [.lit (.bool true)], args := [d1, d2, d3, d4] }
  | _ => none }
def viewTellsRow : OpenClaim := { program := "ytjejjokdbbedlaa", sum := "200ea170559cdda489aa46cc87f21358eff16d3095c15c6cb52b403ac842be0c", func := "giro/girolaw14.ViewTells", spec := "viewTells", unfollowed := true, recurses := true, apart := false }
def ViewTellsSaid : Prop := viewTellsRow.holds Try.pinned (OpenSpec.ofChange viewTellsSpec)

/-- ITS FALSE NEIGHBOUR: 'it returns false'. Refute it at one input. -/
def viewTellsWrong : ChangeSpec := { name := "viewTells", fn := fun _ => fun
  | [d1, d2, d3, d4] => { results := [.lit (.bool false)], args := [d1, d2, d3, d4] }
  | _ => none }
def ViewTellsWrongFalsely : Prop := viewTellsRow.holds Try.pinned (OpenSpec.ofChange viewTellsWrong)

/-- 'girolaw14.ViewOwn': WHATEVER THE INPUT: true; the input reads as it did. -/
def viewOwnSpec : ChangeSpec := { name := "viewOwn", fn := fun _ => fun
  | [d1, d2, d3] => { results := [.lit (.bool true)], args := [d1, d2, d3] }
  | _ => none }
def viewOwnRow : OpenClaim := { program := "ytjejjokdbbedlaa", sum := "200ea170559cdda489aa46cc87f21358eff16d3095c15c6cb52b403ac842be0c", func := "giro/girolaw14.ViewOwn", spec := "viewOwn", unfollowed := true, recurses := true, apart := false }
def ViewOwnSaid : Prop := viewOwnRow.holds Try.pinned (OpenSpec.ofChange viewOwnSpec)

/-- ITS FALSE NEIGHBOUR: 'it returns false'. Refute it at one input. -/
def viewOwnWrong : ChangeSpec := { name := "viewOwn", fn := fun _ => fun
  | [d1, d2, d3] => { results := [.lit (.bool false)], args := [d1, d2, d3] }
  | _ => none }
def ViewOwnWrongFalsely : Prop := viewOwnRow.holds Try.pinned (OpenSpec.ofChange viewOwnWrong)

/- THE SECOND FORM. 'bulk': how many values and letters a reading holds, each counted each time it is reached (what is shared counts as often as it is met; a slice's spare places count too). A statement '..UptoSaid' is the law's where the arguments, and the package variables that the reading takes, are together of bulk at most 1048576: NARROWER than '..Said'. Prove '..Said' where nothing that the law and all that it calls make is longer than what came in: it says more and counts as full. Else prove '..UptoSaid'. A law counts once. -/
mutual
def uptoBulk {H : Type} : DataW H → Nat
  | .lit (.string bytes) => bytes.length + 1
  | .lit _ => 1
  | .nil => 1
  | .ptr d => uptoBulk d + 1
  | .slice elems spare => uptoBulkAll elems + uptoBulkAll spare + 1
  | .agg parts => uptoBulkAll parts + 1
  | .iface _ d => uptoBulk d + 1
  | .map entries => uptoBulkEntries entries + 1
  | .held _ => 1
def uptoBulkAll {H : Type} : List (DataW H) → Nat
  | [] => 0
  | d :: r => uptoBulk d + uptoBulkAll r
def uptoBulkEntries {H : Type} : List (Lit × DataW H) → Nat
  | [] => 0
  | x :: r => uptoBulkEntry x + uptoBulkEntries r
def uptoBulkEntry {H : Type} : Lit × DataW H → Nat
  | (.string bytes, d) => bytes.length + uptoBulk d + 1
  | (_, d) => uptoBulk d + 1
 end
def uptoSmall : (H : Type) → List (DataW H) → Bool := fun _ ds => decide (uptoBulkAll ds ≤ 1048576)
def OpenSpec.upto (s : _root_.Go.ChangeSpec) : _root_.Go.OpenSpec := { _root_.Go.OpenSpec.ofChange s with cond := some uptoSmall }

/-- 'girolaw14.ViewMay', WHERE WHAT IT READS IS OF BULK AT MOST 1048576: true; the input reads as it did. -/
def viewMayUptoRow : OpenClaim := { program := "ytjejjokdbbedlaa", sum := "200ea170559cdda489aa46cc87f21358eff16d3095c15c6cb52b403ac842be0c", func := "giro/girolaw14.ViewMay", spec := "viewMay", unfollowed := true, recurses := true, apart := false, narrowed := true }
def ViewMayUptoSaid : Prop := viewMayUptoRow.holds Try.pinned (OpenSpec.upto viewMaySpec)

/-- 'girolaw14.ViewHeads', WHERE WHAT IT READS IS OF BULK AT MOST 1048576: true; the input reads as it did. -/
def viewHeadsUptoRow : OpenClaim := { program := "ytjejjokdbbedlaa", sum := "200ea170559cdda489aa46cc87f21358eff16d3095c15c6cb52b403ac842be0c", func := "giro/girolaw14.ViewHeads", spec := "viewHeads", unfollowed := true, recurses := true, apart := false, narrowed := true }
def ViewHeadsUptoSaid : Prop := viewHeadsUptoRow.holds Try.pinned (OpenSpec.upto viewHeadsSpec)

/-- 'girolaw14.ViewTells', WHERE WHAT IT READS IS OF BULK AT MOST 1048576: true; the input reads as it did. -/
def viewTellsUptoRow : OpenClaim := { program := "ytjejjokdbbedlaa", sum := "200ea170559cdda489aa46cc87f21358eff16d3095c15c6cb52b403ac842be0c", func := "giro/girolaw14.ViewTells", spec := "viewTells", unfollowed := true, recurses := true, apart := false, narrowed := true }
def ViewTellsUptoSaid : Prop := viewTellsUptoRow.holds Try.pinned (OpenSpec.upto viewTellsSpec)

/-- 'girolaw14.ViewOwn', WHERE WHAT IT READS IS OF BULK AT MOST 1048576: true; the input reads as it did. -/
def viewOwnUptoRow : OpenClaim := { program := "ytjejjokdbbedlaa", sum := "200ea170559cdda489aa46cc87f21358eff16d3095c15c6cb52b403ac842be0c", func := "giro/girolaw14.ViewOwn", spec := "viewOwn", unfollowed := true, recurses := true, apart := false, narrowed := true }
def ViewOwnUptoSaid : Prop := viewOwnUptoRow.holds Try.pinned (OpenSpec.upto viewOwnSpec)

end Rows
end Go.Proofs.Ytjejjokdbbedlaa
