/-
  No cell of these rows narrows 'for every input' (looked for: loops, veiled, ifaces, maps, wideKeys, modest, calm, conditions, laid).
  DERIVED. THE GIVEN ROWS OF THIS SEAT. 6 by the template 'for every input the law returns true; each argument reads behind the call as it read before'; 0 by the template 'total and deterministic' (their statements: YthjcfiekdejdgaaTotals.lean).
  GIVEN WITH THE SEED: the statements are not yours to turn. If you find one false, say at which input.
  Laid BY PROGRAM, IN A SANDBOX (cutbox-rows.mjs): the forced cells as the released guide's own fill.sh prints them over the translation 55fd130cbf8187ee… (all of the seat's roots in one cut). By AI agents, Wed Nov 11 2026. No macro, syntax, notation, axiom, sorry.
-/
import Derived.Test.YthjcfiekdejdgaaChecked
import GoSem.Claim
import GoSem.ClaimJoined
import GoSem.ClaimMapViews
import Derived.JoinedTies
import Derived.KernelRfl
namespace Go.Proofs.Ythjcfiekdejdgaa
/- THE CELL 'sum', in the pinned program and in every row, IS THE sha256 OF THE DUMP (.gsa) THAT YthjcfiekdejdgaaProg.lean LOADS. Nothing in Lean hashes anything: it is a label: what it is worth is what the hold of that sum in a sandbox is worth. -/
noncomputable def Try.pinned : Pinned := { name := "ythjcfiekdejdgaa", sum := "55fd130cbf8187ee2e0ff5f18db9cf997fb7c1415af5f1a0546b4d085ccd65c1", checked := Try.checked }
namespace Rows
def none {H : Type} : Left H := { results := [], args := [] }

/-- 'girolaw15.FitsTells': WHATEVER THE INPUT: true; the input reads as it did. -/
def fitsTellsSpec : ChangeSpec := { name := "fitsTells", fn := fun _ => fun
  | [d1, d2] => { results := [.lit (.bool true)], args := [d1, d2] }
  | _ => none }
def fitsTellsRow : OpenClaim := { program := "ythjcfiekdejdgaa", sum := "55fd130cbf8187ee2e0ff5f18db9cf997fb7c1415af5f1a0546b4d085ccd65c1", func := "giro/girolaw15.FitsTells", spec := "fitsTells", unfollowed := true, recurses := true, apart := false }
def FitsTellsSaid : Prop := fitsTellsRow.holds Try.pinned (OpenSpec.ofChange fitsTellsSpec)

/-- ITS FALSE NEIGHBOUR: 'it returns false'. Refute it at one input. -/
def fitsTellsWrong : ChangeSpec := { name := "fitsTells", fn := fun _ => fun
  | [d1, d2] => { results := [.lit (.bool false)], args := [d1, d2] }
  | _ => none }
def FitsTellsWrongFalsely : Prop := fitsTellsRow.holds Try.pinned (OpenSpec.ofChange fitsTellsWrong)

/-- 'girolaw15.FitsSome': WHATEVER THE INPUT: true; the input reads as it did. -/
def fitsSomeSpec : ChangeSpec := { name := "fitsSome", fn := fun _ => fun
  | [d1, d2, d3] => { results := [.lit (.bool true)], args := [d1, d2, d3] }
  | _ => none }
def fitsSomeRow : OpenClaim := { program := "ythjcfiekdejdgaa", sum := "55fd130cbf8187ee2e0ff5f18db9cf997fb7c1415af5f1a0546b4d085ccd65c1", func := "giro/girolaw15.FitsSome", spec := "fitsSome", unfollowed := true, recurses := true, apart := false }
def FitsSomeSaid : Prop := fitsSomeRow.holds Try.pinned (OpenSpec.ofChange fitsSomeSpec)

/-- ITS FALSE NEIGHBOUR: 'it returns false'. Refute it at one input. -/
def fitsSomeWrong : ChangeSpec := { name := "fitsSome", fn := fun _ => fun
  | [d1, d2, d3] => { results := [.lit (.bool false)], args := [d1, d2, d3] }
  | _ => none }
def FitsSomeWrongFalsely : Prop := fitsSomeRow.holds Try.pinned (OpenSpec.ofChange fitsSomeWrong)

/-- 'girolaw15.FitsOrder': WHATEVER THE INPUT: true; the input reads as it did. -/
def fitsOrderSpec : ChangeSpec := { name := "fitsOrder", fn := fun _ => fun
  | [d1, d2, d3, d4] => { results := [.lit (.bool true)], args := [d1, d2, d3, d4] }
  | _ => none }
def fitsOrderRow : OpenClaim := { program := "ythjcfiekdejdgaa", sum := "55fd130cbf8187ee2e0ff5f18db9cf997fb7c1415af5f1a0546b4d085ccd65c1", func := "giro/girolaw15.FitsOrder", spec := "fitsOrder", unfollowed := true, recurses := true, apart := false }
def FitsOrderSaid : Prop := fitsOrderRow.holds Try.pinned (OpenSpec.ofChange fitsOrderSpec)

/-- ITS FALSE NEIGHBOUR: 'it returns false'. Refute it at one input. -/
def fitsOrderWrong : ChangeSpec := { name := "fitsOrder", fn := fun _ => fun
  | [d1, d2, d3, d4] => { results := [.lit (.bool false)], args := [d1, d2, d3, d4] }
  | _ => none }
def FitsOrderWrongFalsely : Prop := fitsOrderRow.holds Try.pinned (OpenSpec.ofChange fitsOrderWrong)

/-- 'girolaw15.FitsLess': WHATEVER THE INPUT: true; the input reads as it did. -/
def fitsLessSpec : ChangeSpec := { name := "fitsLess", fn := fun _ => fun
  | [d1, d2, d3, d4, d5] => { results := [.lit (.bool true)], args := [d1, d2, d3, d4, d5] }
  | _ => none }
def fitsLessRow : OpenClaim := { program := "ythjcfiekdejdgaa", sum := "55fd130cbf8187ee2e0ff5f18db9cf997fb7c1415af5f1a0546b4d085ccd65c1", func := "giro/girolaw15.FitsLess", spec := "fitsLess", unfollowed := true, recurses := true, apart := false }
def FitsLessSaid : Prop := fitsLessRow.holds Try.pinned (OpenSpec.ofChange fitsLessSpec)

/-- ITS FALSE NEIGHBOUR: 'it returns false'. Refute it at one input. -/
def fitsLessWrong : ChangeSpec := { name := "fitsLess", fn := fun _ => fun
  | [d1, d2, d3, d4, d5] => { results := [.lit (.bool false)], args := [d1, d2, d3, d4, d5] }
  | _ => none }
def FitsLessWrongFalsely : Prop := fitsLessRow.holds Try.pinned (OpenSpec.ofChange fitsLessWrong)

/-- 'girolaw15.FitsOne': WHATEVER THE INPUT: true; the input reads as it did. -/
def fitsOneSpec : ChangeSpec := { name := "fitsOne", fn := fun _ => fun
  | [d1, d2, d3, d4, d5, d6, d7, d8] => { results := [.lit (.bool true)], args := [d1, d2, d3, d4, d5, d6, d7, d8] }
  | _ => none }
def fitsOneRow : OpenClaim := { program := "ythjcfiekdejdgaa", sum := "55fd130cbf8187ee2e0ff5f18db9cf997fb7c1415af5f1a0546b4d085ccd65c1", func := "giro/girolaw15.FitsOne", spec := "fitsOne", unfollowed := true, recurses := true, apart := false }
def FitsOneSaid : Prop := fitsOneRow.holds Try.pinned (OpenSpec.ofChange fitsOneSpec)

/-- ITS FALSE NEIGHBOUR: 'it returns false'. Refute it at one input. -/
def fitsOneWrong : ChangeSpec := { name := "fitsOne", fn := fun _ => fun
  | [d1, d2, d3, d4, d5, d6, d7, d8] => { results := [.lit (.bool false)], args := [d1, d2, d3, d4, d5, d6, d7, d8] }
  | _ => none }
def FitsOneWrongFalsely : Prop := fitsOneRow.holds Try.pinned (OpenSpec.ofChange fitsOneWrong)

/-- 'girolaw15.FitsKnown': WHATEVER THE INPUT: true; the input reads as it did. -/
def fitsKnownSpec : ChangeSpec := { name := "fitsKnown", fn := fun _ => fun
  | [d] => { results := [.lit (.bool true)], args := [d] }
  | _ => none }
def fitsKnownRow : OpenClaim := { program := "ythjcfiekdejdgaa", sum := "55fd130cbf8187ee2e0ff5f18db9cf997fb7c1415af5f1a0546b4d085ccd65c1", func := "giro/girolaw15.FitsKnown", spec := "fitsKnown", unfollowed := true, recurses := true, apart := false }
def FitsKnownSaid : Prop := fitsKnownRow.holds Try.pinned (OpenSpec.ofChange fitsKnownSpec)

/-- ITS FALSE NEIGHBOUR: 'it returns false'. Refute it at one input. -/
def fitsKnownWrong : ChangeSpec := { name := "fitsKnown", fn := fun _ => fun
  | [d] => { results := [.lit (.bool false)], args := [d] }
  | _ => none }
def FitsKnownWrongFalsely : Prop := fitsKnownRow.holds Try.pinned (OpenSpec.ofChange fitsKnownWrong)

/- THE SECOND FORM. 'bulk': how many values and letters a reading holds, each counted each time it is reached (what is shared counts as often as it is met; a slice's spare places count too). A statement '..UptoSaid' is the law's where the arguments, and the package variables that the reading takes, are together of bulk at most 1048576: NARROWER than '..Said'. Prove '..Said' where nothing that the law and all that it calls make is longer than what came in: it says more and counts as full. Else prove '..UptoSaid'. A law counts once. -/
mutual
def uptoBulk {H : Type} : DataW H → Nat
  | .lit (.string bytes) => bytes.length + 1
  | .lit _ => 1
  | .nil => 1
  | .ptr d => uptoBulk d + 1
  | .slice elems spare => uptoBulkAll elems + uptoBulkAll spare + 1
  | .agg parts => uptoBulkAll parts + 1
  | .iface _ d => uptoBulk d + 1
  | .map entries => uptoBulkEntries entries + 1
  | .held _ => 1
def uptoBulkAll {H : Type} : List (DataW H) → Nat
  | [] => 0
  | d :: r => uptoBulk d + uptoBulkAll r
def uptoBulkEntries {H : Type} : List (Lit × DataW H) → Nat
  | [] => 0
  | x :: r => uptoBulkEntry x + uptoBulkEntries r
def uptoBulkEntry {H : Type} : Lit × DataW H → Nat
  | (.string bytes, d) => bytes.length + uptoBulk d + 1
  | (_, d) => uptoBulk d + 1
 end
def uptoSmall : (H : Type) → List (DataW H) → Bool := fun _ ds => decide (uptoBulkAll ds ≤ 1048576)
def OpenSpec.upto (s : _root_.Go.ChangeSpec) : _root_.Go.OpenSpec := { _root_.Go.OpenSpec.ofChange s with cond := some uptoSmall }

/-- 'girolaw15.FitsTells', WHERE WHAT IT READS IS OF BULK AT MOST 1048576: true; the input reads as it did. -/
def fitsTellsUptoRow : OpenClaim := { program := "ythjcfiekdejdgaa", sum := "55fd130cbf8187ee2e0ff5f18db9cf997fb7c1415af5f1a0546b4d085ccd65c1", func := "giro/girolaw15.FitsTells", spec := "fitsTells", unfollowed := true, recurses := true, apart := false, narrowed := true }
def FitsTellsUptoSaid : Prop := fitsTellsUptoRow.holds Try.pinned (OpenSpec.upto fitsTellsSpec)

/-- 'girolaw15.FitsSome', WHERE WHAT IT READS IS OF BULK AT MOST 1048576: true; the input reads as it did. -/
def fitsSomeUptoRow : OpenClaim := { program := "ythjcfiekdejdgaa", sum := "55fd130cbf8187ee2e0ff5f18db9cf997fb7c1415af5f1a0546b4d085ccd65c1", func := "giro/girolaw15.FitsSome", spec := "fitsSome", unfollowed := true, recurses := true, apart := false, narrowed := true }
def FitsSomeUptoSaid : Prop := fitsSomeUptoRow.holds Try.pinned (OpenSpec.upto fitsSomeSpec)

/-- 'girolaw15.FitsOrder', WHERE WHAT IT READS IS OF BULK AT MOST 1048576: true; the input reads as it did. -/
def fitsOrderUptoRow : OpenClaim := { program := "ythjcfiekdejdgaa", sum := "55fd130cbf8187ee2e0ff5f18db9cf997fb7c1415af5f1a0546b4d085ccd65c1", func := "giro/girolaw15.FitsOrder", spec := "fitsOrder", unfollowed := true, recurses := true, apart := false, narrowed := true }
def FitsOrderUptoSaid : Prop := fitsOrderUptoRow.holds Try.pinned (OpenSpec.upto fitsOrderSpec)

/-- 'girolaw15.FitsLess', WHERE WHAT IT READS IS OF BULK AT MOST 1048576: true; the input reads as it did. -/
def fitsLessUptoRow : OpenClaim := { program := "ythjcfiekdejdgaa", sum := "55fd130cbf8187ee2e0ff5f18db9cf997fb7c1415af5f1a0546b4d085ccd65c1", func := "giro/girolaw15.FitsLess", spec := "fitsLess", unfollowed := true, recurses := true, apart := false, narrowed := true }
def FitsLessUptoSaid : Prop := fitsLessUptoRow.holds Try.pinned (OpenSpec.upto fitsLessSpec)

/-- 'girolaw15.FitsOne', WHERE WHAT IT READS IS OF BULK AT MOST 1048576: true; the input reads as it did. -/
def fitsOneUptoRow : OpenClaim := { program := "ythjcfiekdejdgaa", sum := "55fd130cbf8187ee2e0ff5f18db9cf997fb7c1415af5f1a0546b4d085ccd65c1", func := "giro/girolaw15.FitsOne", spec := "fitsOne", unfollowed := true, recurses := true, apart := false, narrowed := true }
def FitsOneUptoSaid : Prop := fitsOneUptoRow.holds Try.pinned (OpenSpec.upto fitsOneSpec)

/-- 'girolaw15.FitsKnown', WHERE WHAT IT READS IS OF BULK AT MOST 1048576: true; the input reads as it did. -/
def fitsKnownUptoRow : OpenClaim := { program := "ythjcfiekdejdgaa", sum := "55fd130cbf8187ee2e0ff5f18db9cf997fb7c1415af5f1a0546b4d085ccd65c1", func := "giro/girolaw15.FitsKnown", spec := "fitsKnown", unfollowed := true, recurses := true, apart := false, narrowed := true }
def FitsKnownUptoSaid : Prop := fitsKnownUptoRow.holds Try.pinned (OpenSpec.upto fitsKnownSpec)

end Rows
end Go.Proofs.Ythjcfiekdejdgaa
