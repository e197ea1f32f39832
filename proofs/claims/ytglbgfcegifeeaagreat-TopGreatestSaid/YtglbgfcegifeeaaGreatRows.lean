/-
  No cell of these rows narrows 'for every input' (looked for: loops, veiled, ifaces, maps, wideKeys, modest, calm, conditions, laid).
  DERIVED. THE GIVEN ROWS OF THIS SEAT. 6 by the template 'for every input the law returns true; each argument reads behind the call as it read before'; 0 by the template 'total and deterministic' (their statements: YtglbgfcegifeeaaGreatTotals.lean).
  GIVEN WITH THE SEED: the statements are not yours to turn. If you find one false, say at which input.
  Laid BY PROGRAM, IN A SANDBOX (cutbox-rows.mjs): the forced cells as the released guide's own fill.sh prints them over the translation eb3231fbaff8ba96… (all of the seat's roots in one cut). By AI agents, Wed Nov 11 2026. No macro, syntax, notation, axiom, sorry.
-/
import Derived.Test.YtglbgfcegifeeaaGreatChecked
import GoSem.Claim
import GoSem.ClaimJoined
import GoSem.ClaimMapViews
import Derived.JoinedTies
import Derived.KernelRfl
namespace Go.Proofs.YtglbgfcegifeeaaGreat
/- THE CELL 'sum', in the pinned program and in every row, IS THE sha256 OF THE DUMP (.gsa) THAT YtglbgfcegifeeaaGreatProg.lean LOADS. Nothing in Lean hashes anything: it is a label: what it is worth is what the hold of that sum in a sandbox is worth. -/
noncomputable def Tryz.pinned : Pinned := { name := "ytglbgfcegifeeaagreat", sum := "eb3231fbaff8ba96fa8ce1b4e97b600fd1d429c7ca17d28d0a4d3eef7ea540ca", checked := Tryz.checked }
namespace Rows
def none {H : Type} : Left H := { results := [], args := [] }

/-- 'girotop.TopLimits': WHATEVER THE INPUT: true; the input reads as it did. -/
def topLimitsSpec : ChangeSpec := { name := "topLimits", fn := fun _ => fun
  | [d1, d2] => { results := [.lit (.bool true)], args := [d1, d2] }
  | _ => none }
def topLimitsRow : OpenClaim := { program := "ytglbgfcegifeeaagreat", sum := "eb3231fbaff8ba96fa8ce1b4e97b600fd1d429c7ca17d28d0a4d3eef7ea540ca", func := "giro/girotop.TopLimits", spec := "topLimits", inPlace := ["slices.overlaps[int64]", "slices.overlaps[giro/api.Pay]", "math/bits.Add64"], unfollowed := true, recurses := true, named := ["math/bits.divideError", "math/bits.overflowError"], apart := false }
def TopLimitsSaid : Prop := topLimitsRow.holds Tryz.pinned (OpenSpec.ofChange topLimitsSpec)

/-- ITS FALSE NEIGHBOUR: 'it returns false'. Refute it at one input. -/
def topLimitsWrong : ChangeSpec := { name := "topLimits", fn := fun _ => fun
  | [d1, d2] => { results := [.lit (.bool false)], args := [d1, d2] }
  | _ => none }
def TopLimitsWrongFalsely : Prop := topLimitsRow.holds Tryz.pinned (OpenSpec.ofChange topLimitsWrong)

/-- 'girotop.TopGreatest': WHATEVER THE INPUT: true; the input reads as it did. -/
def topGreatestSpec : ChangeSpec := { name := "topGreatest", fn := fun _ => fun
  | [d1, d2, d3, d4, d5] => { results := [.lit (.bool true)], args := [d1, d2, d3, d4, d5] }
  | _ => none }
def topGreatestRow : OpenClaim := { program := "ytglbgfcegifeeaagreat", sum := "eb3231fbaff8ba96fa8ce1b4e97b600fd1d429c7ca17d28d0a4d3eef7ea540ca", func := "giro/girotop.TopGreatest", spec := "topGreatest", inPlace := ["math/bits.Add64", "slices.overlaps[int64]", "slices.overlaps[giro/api.Pay]"], unfollowed := true, recurses := true, named := ["math/bits.divideError", "math/bits.overflowError"], apart := false }
def TopGreatestSaid : Prop := topGreatestRow.holds Tryz.pinned (OpenSpec.ofChange topGreatestSpec)

/-- ITS FALSE NEIGHBOUR: 'it returns false'. Refute it at one input. -/
def topGreatestWrong : ChangeSpec := { name := "topGreatest", fn := fun _ => fun
  | [d1, d2, d3, d4, d5] => { results := [.lit (.bool false)], args := [d1, d2, d3, d4, d5] }
  | _ => none }
def TopGreatestWrongFalsely : Prop := topGreatestRow.holds Tryz.pinned (OpenSpec.ofChange topGreatestWrong)

/-- 'girotop.TopGridlock': WHATEVER THE INPUT: true; the input reads as it did. -/
def topGridlockSpec : ChangeSpec := { name := "topGridlock", fn := fun _ => fun
  | [d1, d2, d3] => { results := [.lit (.bool true)], args := [d1, d2, d3] }
  | _ => none }
def topGridlockRow : OpenClaim := { program := "ytglbgfcegifeeaagreat", sum := "eb3231fbaff8ba96fa8ce1b4e97b600fd1d429c7ca17d28d0a4d3eef7ea540ca", func := "giro/girotop.TopGridlock", spec := "topGridlock", inPlace := ["slices.overlaps[int64]", "slices.overlaps[giro/api.Pay]", "math/bits.Add64"], unfollowed := true, recurses := true, named := ["math/bits.divideError", "math/bits.overflowError"], apart := false }
def TopGridlockSaid : Prop := topGridlockRow.holds Tryz.pinned (OpenSpec.ofChange topGridlockSpec)

/-- ITS FALSE NEIGHBOUR: 'it returns false'. Refute it at one input. -/
def topGridlockWrong : ChangeSpec := { name := "topGridlock", fn := fun _ => fun
  | [d1, d2, d3] => { results := [.lit (.bool false)], args := [d1, d2, d3] }
  | _ => none }
def TopGridlockWrongFalsely : Prop := topGridlockRow.holds Tryz.pinned (OpenSpec.ofChange topGridlockWrong)

/-- 'girotop.TopStuck': WHATEVER THE INPUT: true; the input reads as it did. -/
def topStuckSpec : ChangeSpec := { name := "topStuck", fn := fun _ => fun
  | [d1, d2] => { results := [.lit (.bool true)], args := [d1, d2] }
  | _ => none }
def topStuckRow : OpenClaim := { program := "ytglbgfcegifeeaagreat", sum := "eb3231fbaff8ba96fa8ce1b4e97b600fd1d429c7ca17d28d0a4d3eef7ea540ca", func := "giro/girotop.TopStuck", spec := "topStuck", inPlace := ["math/bits.Add64", "slices.overlaps[int64]", "slices.overlaps[giro/api.Pay]"], unfollowed := true, recurses := true, named := ["math/bits.divideError", "math/bits.overflowError"], apart := false }
def TopStuckSaid : Prop := topStuckRow.holds Tryz.pinned (OpenSpec.ofChange topStuckSpec)

/-- ITS FALSE NEIGHBOUR: 'it returns false'. Refute it at one input. -/
def topStuckWrong : ChangeSpec := { name := "topStuck", fn := fun _ => fun
  | [d1, d2] => { results := [.lit (.bool false)], args := [d1, d2] }
  | _ => none }
def TopStuckWrongFalsely : Prop := topStuckRow.holds Tryz.pinned (OpenSpec.ofChange topStuckWrong)

/-- 'girotop.TopRefused': WHATEVER THE INPUT: true; the input reads as it did. -/
def topRefusedSpec : ChangeSpec := { name := "topRefused", fn := fun _ => fun
  | [d1, d2, d3, d4] => { results := [.lit (.bool true)], args := [d1, d2, d3, d4] }
  | _ => none }
def topRefusedRow : OpenClaim := { program := "ytglbgfcegifeeaagreat", sum := "eb3231fbaff8ba96fa8ce1b4e97b600fd1d429c7ca17d28d0a4d3eef7ea540ca", func := "giro/girotop.TopRefused", spec := "topRefused", inPlace := ["math/bits.Add64", "slices.overlaps[int64]", "slices.overlaps[giro/api.Pay]"], unfollowed := true, recurses := true, named := ["math/bits.divideError", "math/bits.overflowError"], apart := false }
def TopRefusedSaid : Prop := topRefusedRow.holds Tryz.pinned (OpenSpec.ofChange topRefusedSpec)

/-- ITS FALSE NEIGHBOUR: 'it returns false'. Refute it at one input. -/
def topRefusedWrong : ChangeSpec := { name := "topRefused", fn := fun _ => fun
  | [d1, d2, d3, d4] => { results := [.lit (.bool false)], args := [d1, d2, d3, d4] }
  | _ => none }
def TopRefusedWrongFalsely : Prop := topRefusedRow.holds Tryz.pinned (OpenSpec.ofChange topRefusedWrong)

/-- 'girotop.TopEvery': WHATEVER THE INPUT: true; the input reads as it did. -/
def topEverySpec : ChangeSpec := { name := "topEvery", fn := fun _ => fun
  | [d1, d2, d3, d4, d5] => { results := [.lit (.bool true)], args := [d1, d2, d3, d4, d5] }
  | _ => none }
def topEveryRow : OpenClaim := { program := "ytglbgfcegifeeaagreat", sum := "eb3231fbaff8ba96fa8ce1b4e97b600fd1d429c7ca17d28d0a4d3eef7ea540ca", func := "giro/girotop.TopEvery", spec := "topEvery", inPlace := ["math/bits.Add64", "slices.overlaps[int64]", "slices.overlaps[giro/api.Pay]"], unfollowed := true, recurses := true, named := ["math/bits.divideError", "math/bits.overflowError"], apart := false }
def TopEverySaid : Prop := topEveryRow.holds Tryz.pinned (OpenSpec.ofChange topEverySpec)

/-- ITS FALSE NEIGHBOUR: 'it returns false'. Refute it at one input. -/
def topEveryWrong : ChangeSpec := { name := "topEvery", fn := fun _ => fun
  | [d1, d2, d3, d4, d5] => { results := [.lit (.bool false)], args := [d1, d2, d3, d4, d5] }
  | _ => none }
def TopEveryWrongFalsely : Prop := topEveryRow.holds Tryz.pinned (OpenSpec.ofChange topEveryWrong)

/- THE SECOND FORM. 'bulk': how many values and letters a reading holds, each counted each time it is reached (what is shared counts as often as it is met; a slice's spare places count too). A statement '..UptoSaid' is the law's where the arguments, and the package variables that the reading takes, are together of bulk at most 1048576: NARROWER than '..Said'. Prove '..Said' where nothing that the law and all that it calls make is longer than what came in: it says more and counts as full. Else prove '..UptoSaid'. A law counts once. -/
mutual
def uptoBulk {H : Type} : DataW H → Nat
  | .lit (.string bytes) => bytes.length + 1
  | .lit _ => 1
  | .nil => 1
  | .ptr d => uptoBulk d + 1
  | .slice elems spare => uptoBulkAll elems + uptoBulkAll spare + 1
  | .agg parts => uptoBulkAll parts + 1
  | .iface _ d => uptoBulk d + 1
  | .map entries => uptoBulkEntries entries + 1
  | .held _ => 1
def uptoBulkAll {H : Type} : List (DataW H) → Nat
  | [] => 0
  | d :: r => uptoBulk d + uptoBulkAll r
def uptoBulkEntries {H : Type} : List (Lit × DataW H) → Nat
  | [] => 0
  | x :: r => uptoBulkEntry x + uptoBulkEntries r
def uptoBulkEntry {H : Type} : Lit × DataW H → Nat
  | (.string bytes, d) => bytes.length + uptoBulk d + 1
  | (_, d) => uptoBulk d + 1
 end
def uptoSmall : (H : Type) → List (DataW H) → Bool := fun _ ds => decide (uptoBulkAll ds ≤ 1048576)
def OpenSpec.upto (s : _root_.Go.ChangeSpec) : _root_.Go.OpenSpec := { _root_.Go.OpenSpec.ofChange s with cond := some uptoSmall }

/-- 'girotop.TopLimits', WHERE WHAT IT READS IS OF BULK AT MOST 1048576: true; the input reads as it did. -/
def topLimitsUptoRow : OpenClaim := { program := "ytglbgfcegifeeaagreat", sum := "eb3231fbaff8ba96fa8ce1b4e97b600fd1d429c7ca17d28d0a4d3eef7ea540ca", func := "giro/girotop.TopLimits", spec := "topLimits", inPlace := ["slices.overlaps[int64]", "slices.overlaps[giro/api.Pay]", "math/bits.Add64"], unfollowed := true, recurses := true, named := ["math/bits.divideError", "math/bits.overflowError"], apart := false, narrowed := true }
def TopLimitsUptoSaid : Prop := topLimitsUptoRow.holds Tryz.pinned (OpenSpec.upto topLimitsSpec)

/-- 'girotop.TopGreatest', WHERE WHAT IT READS IS OF BULK AT MOST 1048576: true; the input reads as it did. -/
def topGreatestUptoRow : OpenClaim := { program := "ytglbgfcegifeeaagreat", sum := "eb3231fbaff8ba96fa8ce1b4e97b600fd1d429c7ca17d28d0a4d3eef7ea540ca", func := "giro/girotop.TopGreatest", spec := "topGreatest", inPlace := ["math/bits.Add64", "slices.overlaps[int64]", "slices.overlaps[giro/api.Pay]"], unfollowed := true, recurses := true, named := ["math/bits.divideError", "math/bits.overflowError"], apart := false, narrowed := true }
def TopGreatestUptoSaid : Prop := topGreatestUptoRow.holds Tryz.pinned (OpenSpec.upto topGreatestSpec)

/-- 'girotop.TopGridlock', WHERE WHAT IT READS IS OF BULK AT MOST 1048576: true; the input reads as it did. -/
def topGridlockUptoRow : OpenClaim := { program := "ytglbgfcegifeeaagreat", sum := "eb3231fbaff8ba96fa8ce1b4e97b600fd1d429c7ca17d28d0a4d3eef7ea540ca", func := "giro/girotop.TopGridlock", spec := "topGridlock", inPlace := ["slices.overlaps[int64]", "slices.overlaps[giro/api.Pay]", "math/bits.Add64"], unfollowed := true, recurses := true, named := ["math/bits.divideError", "math/bits.overflowError"], apart := false, narrowed := true }
def TopGridlockUptoSaid : Prop := topGridlockUptoRow.holds Tryz.pinned (OpenSpec.upto topGridlockSpec)

/-- 'girotop.TopStuck', WHERE WHAT IT READS IS OF BULK AT MOST 1048576: true; the input reads as it did. -/
def topStuckUptoRow : OpenClaim := { program := "ytglbgfcegifeeaagreat", sum := "eb3231fbaff8ba96fa8ce1b4e97b600fd1d429c7ca17d28d0a4d3eef7ea540ca", func := "giro/girotop.TopStuck", spec := "topStuck", inPlace := ["math/bits.Add64", "slices.overlaps[int64]", "slices.overlaps[giro/api.Pay]"], unfollowed := true, recurses := true, named := ["math/bits.divideError", "math/bits.overflowError"], apart := false, narrowed := true }
def TopStuckUptoSaid : Prop := topStuckUptoRow.holds Tryz.pinned (OpenSpec.upto topStuckSpec)

/-- 'girotop.TopRefused', WHERE WHAT IT READS IS OF BULK AT MOST 1048576: true; the input reads as it did. -/
def topRefusedUptoRow : OpenClaim := { program := "ytglbgfcegifeeaagreat", sum := "eb3231fbaff8ba96fa8ce1b4e97b600fd1d429c7ca17d28d0a4d3eef7ea540ca", func := "giro/girotop.TopRefused", spec := "topRefused", inPlace := ["math/bits.Add64", "slices.overlaps[int64]", "slices.overlaps[giro/api.Pay]"], unfollowed := true, recurses := true, named := ["math/bits.divideError", "math/bits.overflowError"], apart := false, narrowed := true }
def TopRefusedUptoSaid : Prop := topRefusedUptoRow.holds Tryz.pinned (OpenSpec.upto topRefusedSpec)

/-- 'girotop.TopEvery', WHERE WHAT IT READS IS OF BULK AT MOST 1048576: true; the input reads as it did. -/
def topEveryUptoRow : OpenClaim := { program := "ytglbgfcegifeeaagreat", sum := "eb3231fbaff8ba96fa8ce1b4e97b600fd1d429c7ca17d28d0a4d3eef7ea540ca", func := "giro/girotop.TopEvery", spec := "topEvery", inPlace := ["math/bits.Add64", "slices.overlaps[int64]", "slices.overlaps[giro/api.Pay]"], unfollowed := true, recurses := true, named := ["math/bits.divideError", "math/bits.overflowError"], apart := false, narrowed := true }
def TopEveryUptoSaid : Prop := topEveryUptoRow.holds Tryz.pinned (OpenSpec.upto topEverySpec)

end Rows
end Go.Proofs.YtglbgfcegifeeaaGreat
