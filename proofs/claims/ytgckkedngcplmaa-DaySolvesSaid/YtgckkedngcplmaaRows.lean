/-
  No cell of these rows narrows 'for every input' (looked for: loops, veiled, ifaces, maps, wideKeys, modest, calm, conditions, laid).
  DERIVED. THE GIVEN ROWS OF THIS SEAT. 9 by the template 'for every input the law returns true; each argument reads behind the call as it read before'; 0 by the template 'total and deterministic' (their statements: YtgckkedngcplmaaTotals.lean).
  GIVEN WITH THE SEED: the statements are not yours to turn. If you find one false, say at which input.
  Laid BY PROGRAM, IN A SANDBOX (cutbox-rows.mjs): the forced cells as the released guide's own fill.sh prints them over the translation e66d2381ae20ab8d… (all of the seat's roots in one cut). By AI agents, Wed Nov 11 2026. No macro, syntax, notation, axiom, sorry.
-/
import Derived.Test.YtgckkedngcplmaaChecked
import GoSem.Claim
import GoSem.ClaimJoined
import GoSem.ClaimMapViews
import Derived.JoinedTies
import Derived.KernelRfl
namespace Go.Proofs.Ytgckkedngcplmaa
/- THE CELL 'sum', in the pinned program and in every row, IS THE sha256 OF THE DUMP (.gsa) THAT YtgckkedngcplmaaProg.lean LOADS. Nothing in Lean hashes anything: it is a label: what it is worth is what the hold of that sum in a sandbox is worth. -/
noncomputable def Try.pinned : Pinned := { name := "ytgckkedngcplmaa", sum := "e66d2381ae20ab8d7038ee05cb2609952862817a8721e4fc7471003ac422655b", checked := Try.checked }
namespace Rows
def none {H : Type} : Left H := { results := [], args := [] }

/-- 'girolaw11.PayChecks': WHATEVER THE INPUT: true; the input reads as it did. -/
def payChecksSpec : ChangeSpec := { name := "payChecks", fn := fun _ => fun
  | [d1, d2, d3] => { results := [.lit (.bool true)], args := [d1, d2, d3] }
  | _ => none }
def payChecksRow : OpenClaim := { program := "ytgckkedngcplmaa", sum := "e66d2381ae20ab8d7038ee05cb2609952862817a8721e4fc7471003ac422655b", func := "giro/girolaw11.PayChecks", spec := "payChecks", apart := false }
def PayChecksSaid : Prop := payChecksRow.holds Try.pinned (OpenSpec.ofChange payChecksSpec)

/-- ITS FALSE NEIGHBOUR: 'it returns false'. Refute it at one input. -/
def payChecksWrong : ChangeSpec := { name := "payChecks", fn := fun _ => fun
  | [d1, d2, d3] => { results := [.lit (.bool false)], args := [d1, d2, d3] }
  | _ => none }
def PayChecksWrongFalsely : Prop := payChecksRow.holds Try.pinned (OpenSpec.ofChange payChecksWrong)

/-- 'girolaw11.PayTimes': WHATEVER THE INPUT: true; the input reads as it did. -/
def payTimesSpec : ChangeSpec := { name := "payTimes", fn := fun _ => fun
  | [d1, d2, d3] => { results := [.lit (.bool true)], args := [d1, d2, d3] }
  | _ => none }
def payTimesRow : OpenClaim := { program := "ytgckkedngcplmaa", sum := "e66d2381ae20ab8d7038ee05cb2609952862817a8721e4fc7471003ac422655b", func := "giro/girolaw11.PayTimes", spec := "payTimes", apart := false }
def PayTimesSaid : Prop := payTimesRow.holds Try.pinned (OpenSpec.ofChange payTimesSpec)

/-- ITS FALSE NEIGHBOUR: 'it returns false'. Refute it at one input. -/
def payTimesWrong : ChangeSpec := { name := "payTimes", fn := fun _ => fun
  | [d1, d2, d3] => { results := [.lit (.bool false)], args := [d1, d2, d3] }
  | _ => none }
def PayTimesWrongFalsely : Prop := payTimesRow.holds Try.pinned (OpenSpec.ofChange payTimesWrong)

/-- 'girolaw11.PayKnown': WHATEVER THE INPUT: true; the input reads as it did. -/
def payKnownSpec : ChangeSpec := { name := "payKnown", fn := fun _ => fun
  | [d] => { results := [.lit (.bool true)], args := [d] }
  | _ => none }
def payKnownRow : OpenClaim := { program := "ytgckkedngcplmaa", sum := "e66d2381ae20ab8d7038ee05cb2609952862817a8721e4fc7471003ac422655b", func := "giro/girolaw11.PayKnown", spec := "payKnown", apart := false }
def PayKnownSaid : Prop := payKnownRow.holds Try.pinned (OpenSpec.ofChange payKnownSpec)

/-- ITS FALSE NEIGHBOUR: 'it returns false'. Refute it at one input. -/
def payKnownWrong : ChangeSpec := { name := "payKnown", fn := fun _ => fun
  | [d] => { results := [.lit (.bool false)], args := [d] }
  | _ => none }
def PayKnownWrongFalsely : Prop := payKnownRow.holds Try.pinned (OpenSpec.ofChange payKnownWrong)

/-- 'girolaw7.DayIs': WHATEVER THE INPUT: true; the input reads as it did. -/
def dayIsSpec : ChangeSpec := { name := "dayIs", fn := fun _ => fun
  | [d] => { results := [.lit (.bool true)], args := [d] }
  | _ => none }
def dayIsRow : OpenClaim := { program := "ytgckkedngcplmaa", sum := "e66d2381ae20ab8d7038ee05cb2609952862817a8721e4fc7471003ac422655b", func := "giro/girolaw7.DayIs", spec := "dayIs", unfollowed := true, recurses := true, apart := false }
def DayIsSaid : Prop := dayIsRow.holds Try.pinned (OpenSpec.ofChange dayIsSpec)

/-- ITS FALSE NEIGHBOUR: 'it returns false'. Refute it at one input. -/
def dayIsWrong : ChangeSpec := { name := "dayIs", fn := fun _ => fun
  | [d] => { results := [.lit (.bool false)], args := [d] }
  | _ => none }
def DayIsWrongFalsely : Prop := dayIsRow.holds Try.pinned (OpenSpec.ofChange dayIsWrong)

/-- 'girolaw7.DayTells': WHATEVER THE INPUT: true; the input reads as it did. -/
def dayTellsSpec : ChangeSpec := { name := "dayTells", fn := fun _ => fun
  | [d1, d2, d3] => { results := [.lit (.bool true)], args := [d1, d2, d3] }
  | _ => none }
def dayTellsRow : OpenClaim := { program := "ytgckkedngcplmaa", sum := "e66d2381ae20ab8d7038ee05cb2609952862817a8721e4fc7471003ac422655b", func := "giro/girolaw7.DayTells", spec := "dayTells", unfollowed := true, recurses := true, apart := false }
def DayTellsSaid : Prop := dayTellsRow.holds Try.pinned (OpenSpec.ofChange dayTellsSpec)

/-- ITS FALSE NEIGHBOUR: 'it returns false'. Refute it at one input. -/
def dayTellsWrong : ChangeSpec := { name := "dayTells", fn := fun _ => fun
  | [d1, d2, d3] => { results := [.lit (.bool false)], args := [d1, d2, d3] }
  | _ => none }
def DayTellsWrongFalsely : Prop := dayTellsRow.holds Try.pinned (OpenSpec.ofChange dayTellsWrong)

/-- 'girolaw7.DayOver': WHATEVER THE INPUT: true; the input reads as it did. -/
def dayOverSpec : ChangeSpec := { name := "dayOver", fn := fun _ => fun
  | [d1, d2, d3] => { results := [.lit (.bool true)], args := [d1, d2, d3] }
  | _ => none }
def dayOverRow : OpenClaim := { program := "ytgckkedngcplmaa", sum := "e66d2381ae20ab8d7038ee05cb2609952862817a8721e4fc7471003ac422655b", func := "giro/girolaw7.DayOver", spec := "dayOver", unfollowed := true, recurses := true, apart := false }
def DayOverSaid : Prop := dayOverRow.holds Try.pinned (OpenSpec.ofChange dayOverSpec)

/-- ITS FALSE NEIGHBOUR: 'it returns false'. Refute it at one input. -/
def dayOverWrong : ChangeSpec := { name := "dayOver", fn := fun _ => fun
  | [d1, d2, d3] => { results := [.lit (.bool false)], args := [d1, d2, d3] }
  | _ => none }
def DayOverWrongFalsely : Prop := dayOverRow.holds Try.pinned (OpenSpec.ofChange dayOverWrong)

/-- 'girolaw7.DayKnown': WHATEVER THE INPUT: true; the input reads as it did. -/
def dayKnownSpec : ChangeSpec := { name := "dayKnown", fn := fun _ => fun
  | [d] => { results := [.lit (.bool true)], args := [d] }
  | _ => none }
def dayKnownRow : OpenClaim := { program := "ytgckkedngcplmaa", sum := "e66d2381ae20ab8d7038ee05cb2609952862817a8721e4fc7471003ac422655b", func := "giro/girolaw7.DayKnown", spec := "dayKnown", unfollowed := true, recurses := true, apart := false }
def DayKnownSaid : Prop := dayKnownRow.holds Try.pinned (OpenSpec.ofChange dayKnownSpec)

/-- ITS FALSE NEIGHBOUR: 'it returns false'. Refute it at one input. -/
def dayKnownWrong : ChangeSpec := { name := "dayKnown", fn := fun _ => fun
  | [d] => { results := [.lit (.bool false)], args := [d] }
  | _ => none }
def DayKnownWrongFalsely : Prop := dayKnownRow.holds Try.pinned (OpenSpec.ofChange dayKnownWrong)

/-- 'girolaw7.DaySolves': WHATEVER THE INPUT: true; the input reads as it did. -/
def daySolvesSpec : ChangeSpec := { name := "daySolves", fn := fun _ => fun
  | [d1, d2] => { results := [.lit (.bool true)], args := [d1, d2] }
  | _ => none }
def daySolvesRow : OpenClaim := { program := "ytgckkedngcplmaa", sum := "e66d2381ae20ab8d7038ee05cb2609952862817a8721e4fc7471003ac422655b", func := "giro/girolaw7.DaySolves", spec := "daySolves", unfollowed := true, recurses := true, apart := false }
def DaySolvesSaid : Prop := daySolvesRow.holds Try.pinned (OpenSpec.ofChange daySolvesSpec)

/-- ITS FALSE NEIGHBOUR: 'it returns false'. Refute it at one input. -/
def daySolvesWrong : ChangeSpec := { name := "daySolves", fn := fun _ => fun
  | [d1, d2] => { results := [.lit (.bool false)], args := [d1, d2] }
  | _ => none }
def DaySolvesWrongFalsely : Prop := daySolvesRow.holds Try.pinned (OpenSpec.ofChange daySolvesWrong)

/-- 'girolaw11.PaySame': WHATEVER THE INPUT: true; the input reads as it did. -/
def paySameSpec : ChangeSpec := { name := "paySame", fn := fun _ => fun
  | [d1, d2] => { results := [.lit (.bool true)], args := [d1, d2] }
  | _ => none }
def paySameRow : OpenClaim := { program := "ytgckkedngcplmaa", sum := "e66d2381ae20ab8d7038ee05cb2609952862817a8721e4fc7471003ac422655b", func := "giro/girolaw11.PaySame", spec := "paySame", apart := false }
def PaySameSaid : Prop := paySameRow.holds Try.pinned (OpenSpec.ofChange paySameSpec)

/-- ITS FALSE NEIGHBOUR: 'it returns false'. Refute it at one input. -/
def paySameWrong : ChangeSpec := { name := "paySame", fn := fun _ => fun
  | [d1, d2] => { results := [.lit (.bool false)], args := [d1, d2] }
  | _ => none }
def PaySameWrongFalsely : Prop := paySameRow.holds Try.pinned (OpenSpec.ofChange paySameWrong)

/- THE SECOND FORM. 'bulk': how many values and letters a reading holds, each counted each time it is reached (what is shared counts as often as it is met; a slice's spare places count too). A statement '..UptoSaid' is the law's where the arguments, and the package variables that the reading takes, are together of bulk at most 1048576: NARROWER than '..Said'. Prove '..Said' where nothing that the law and all that it calls make is longer than what came in: it says more and counts as full. Else prove '..UptoSaid'. A law counts once. -/
mutual
def uptoBulk {H : Type} : DataW H → Nat
  | .lit (.string bytes) => bytes.length + 1
  | .lit _ => 1
  | .nil => 1
  | .ptr d => uptoBulk d + 1
  | .slice elems spare => uptoBulkAll elems + uptoBulkAll spare + 1
  | .agg parts => uptoBulkAll parts + 1
  | .iface _ d => uptoBulk d + 1
  | .map entries => uptoBulkEntries entries + 1
  | .held _ => 1
def uptoBulkAll {H : Type} : List (DataW H) → Nat
  | [] => 0
  | d :: r => uptoBulk d + uptoBulkAll r
def uptoBulkEntries {H : Type} : List (Lit × DataW H) → Nat
  | [] => 0
  | x :: r => uptoBulkEntry x + uptoBulkEntries r
def uptoBulkEntry {H : Type} : Lit × DataW H → Nat
  | (.string bytes, d) => bytes.length + uptoBulk d + 1
  | (_, d) => uptoBulk d + 1
 end
def uptoSmall : (H : Type) → List (DataW H) → Bool := fun _ ds => decide (uptoBulkAll ds ≤ 1048576)
def OpenSpec.upto (s : _root_.Go.ChangeSpec) : _root_.Go.OpenSpec := { _root_.Go.OpenSpec.ofChange s with cond := some uptoSmall }

/-- 'girolaw11.PayChecks', WHERE WHAT IT READS IS OF BULK AT MOST 1048576: true; the input reads as it did. -/
def payChecksUptoRow : OpenClaim := { program := "ytgckkedngcplmaa", sum := "e66d2381ae20ab8d7038ee05cb2609952862817a8721e4fc7471003ac422655b", func := "giro/girolaw11.PayChecks", spec := "payChecks", apart := false, narrowed := true }
def PayChecksUptoSaid : Prop := payChecksUptoRow.holds Try.pinned (OpenSpec.upto payChecksSpec)

/-- 'girolaw11.PayTimes', WHERE WHAT IT READS IS OF BULK AT MOST 1048576: true; the input reads as it did. -/
def payTimesUptoRow : OpenClaim := { program := "ytgckkedngcplmaa", sum := "e66d2381ae20ab8d7038ee05cb2609952862817a8721e4fc7471003ac422655b", func := "giro/girolaw11.PayTimes", spec := "payTimes", apart := false, narrowed := true }
def PayTimesUptoSaid : Prop := payTimesUptoRow.holds Try.pinned (OpenSpec.upto payTimesSpec)

/-- 'girolaw11.PayKnown', WHERE WHAT IT READS IS OF BULK AT MOST 1048576: true; the input reads as it did. -/
def payKnownUptoRow : OpenClaim := { program := "ytgckkedngcplmaa", sum := "e66d2381ae20ab8d7038ee05cb2609952862817a8721e4fc7471003ac422655b", func := "giro/girolaw11.PayKnown", spec := "payKnown", apart := false, narrowed := true }
def PayKnownUptoSaid : Prop := payKnownUptoRow.holds Try.pinned (OpenSpec.upto payKnownSpec)

/-- 'girolaw7.DayIs', WHERE WHAT IT READS IS OF BULK AT MOST 1048576: true; the input reads as it did. -/
def dayIsUptoRow : OpenClaim := { program := "ytgckkedngcplmaa", sum := "e66d2381ae20ab8d7038ee05cb2609952862817a8721e4fc7471003ac422655b", func := "giro/girolaw7.DayIs", spec := "dayIs", unfollowed := true, recurses := true, apart := false, narrowed := true }
def DayIsUptoSaid : Prop := dayIsUptoRow.holds Try.pinned (OpenSpec.upto dayIsSpec)

/-- 'girolaw7.DayTells', WHERE WHAT IT READS IS OF BULK AT MOST 1048576: true; the input reads as it did. -/
def dayTellsUptoRow : OpenClaim := { program := "ytgckkedngcplmaa", sum := "e66d2381ae20ab8d7038ee05cb2609952862817a8721e4fc7471003ac422655b", func := "giro/girolaw7.DayTells", spec := "dayTells", unfollowed := true, recurses := true, apart := false, narrowed := true }
def DayTellsUptoSaid : Prop := dayTellsUptoRow.holds Try.pinned (OpenSpec.upto dayTellsSpec)

/-- 'girolaw7.DayOver', WHERE WHAT IT READS IS OF BULK AT MOST 1048576: true; the input reads as it did. -/
def dayOverUptoRow : OpenClaim := { program := "ytgckkedngcplmaa", sum := "e66d2381ae20ab8d7038ee05cb2609952862817a8721e4fc7471003ac422655b", func := "giro/girolaw7.DayOver", spec := "dayOver", unfollowed := true, recurses := true, apart := false, narrowed := true }
def DayOverUptoSaid : Prop := dayOverUptoRow.holds Try.pinned (OpenSpec.upto dayOverSpec)

/-- 'girolaw7.DayKnown', WHERE WHAT IT READS IS OF BULK AT MOST 1048576: true; the input reads as it did. -/
def dayKnownUptoRow : OpenClaim := { program := "ytgckkedngcplmaa", sum := "e66d2381ae20ab8d7038ee05cb2609952862817a8721e4fc7471003ac422655b", func := "giro/girolaw7.DayKnown", spec := "dayKnown", unfollowed := true, recurses := true, apart := false, narrowed := true }
def DayKnownUptoSaid : Prop := dayKnownUptoRow.holds Try.pinned (OpenSpec.upto dayKnownSpec)

/-- 'girolaw7.DaySolves', WHERE WHAT IT READS IS OF BULK AT MOST 1048576: true; the input reads as it did. -/
def daySolvesUptoRow : OpenClaim := { program := "ytgckkedngcplmaa", sum := "e66d2381ae20ab8d7038ee05cb2609952862817a8721e4fc7471003ac422655b", func := "giro/girolaw7.DaySolves", spec := "daySolves", unfollowed := true, recurses := true, apart := false, narrowed := true }
def DaySolvesUptoSaid : Prop := daySolvesUptoRow.holds Try.pinned (OpenSpec.upto daySolvesSpec)

/-- 'girolaw11.PaySame', WHERE WHAT IT READS IS OF BULK AT MOST 1048576: true; the input reads as it did. -/
def paySameUptoRow : OpenClaim := { program := "ytgckkedngcplmaa", sum := "e66d2381ae20ab8d7038ee05cb2609952862817a8721e4fc7471003ac422655b", func := "giro/girolaw11.PaySame", spec := "paySame", apart := false, narrowed := true }
def PaySameUptoSaid : Prop := paySameUptoRow.holds Try.pinned (OpenSpec.upto paySameSpec)

end Rows
end Go.Proofs.Ytgckkedngcplmaa
