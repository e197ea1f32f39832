/- The statement 'Rows.FitsOneSaid': its function is run by the pure machine on data of its parameters' kinds; it gives true. No condition. -/
import Derived.Test.YthjcfiekdejdgaaRows
import Derived.Test.YthjcfiekdejdgaaFb
import Derived.WalkKit
import Derived.ProofKit
import Derived.OpenShut
import Derived.ShutString
namespace Go.Proofs.Ythjcfiekdejdgaa.fitsOne
open Go Go.Proofs Go.ChangeShapes Go.WideShapes Go.ChangeAt Go.RowKit Vm
set_option linter.unusedVariables false
set_option linter.unusedSimpArgs false

theorem own : ownKnob Try.prog.godebug = none := by kernel_rfl

def kinds : List Kd := [.int .i64, .int .i64, .int .i64, .int .i64, .int .i64, .int .i64, .int .i64, .int .i64]
theorem len8 {α : Type} {l : List α} (h : l.length = 8) : ∃ a b c d e f g i, l = [a, b, c, d, e, f, g, i] := by
  match l, h with
  | [a, b, c, d, e, f, g, i], _ => exact ⟨a, b, c, d, e, f, g, i, rfl⟩
theorem hneed (X : Option DV) : need (trueS.D []) X = X := need_pos rfl
theorem runsS (xs : List DV) (h : KVs kinds xs) : Ent Try.prog 7 xs (.bool true) := by
  simp only [kinds, KVs, KV, KC, KCs] at h
  obtain ⟨_, _, rfl, ⟨bal, h1, _⟩, _, _, rfl, ⟨credit, h2, _⟩, _, _, rfl, ⟨res, h3, _⟩, _, _, rfl, ⟨bil, h4, _⟩, _, _, rfl, ⟨mul, h5, _⟩, _, _, rfl, ⟨pos, h6, _⟩, _, _, rfl, ⟨am, h7, _⟩, _, _, rfl, ⟨c, h8, _⟩, rfl⟩ := h
  cases h1
  cases h2
  cases h3
  cases h4
  cases h5
  cases h6
  cases h7
  cases h8
  refine of_FK tab_ok spKn_ok (L := 20) (n := 0 + 12) ((t7 0 bal credit res bil mul pos am c).trans ?_)
  refine cond_of (fun _ => rfl) (fun h => ?_)
  have hr : (0 ≤ bal ∧ bal ≤ 1000) ∧ (0 ≤ credit ∧ credit ≤ 1000) ∧ (0 ≤ res ∧ res ≤ 1000) ∧ (-1 ≤ bil ∧ bil ≤ 1000) ∧ (-1 ≤ mul ∧ mul ≤ 1000) ∧ (-1000 ≤ pos ∧ pos ≤ 1000) ∧ (1 ≤ am ∧ am ≤ 2000) ∧ (1 ≤ c ∧ c ≤ 3) := by
    simp at h
    omega
  clear h
  obtain ⟨r1, r2, r3, r4, r5, r6, r7, r8⟩ := hr
  simp only [hneed]
  simp (disch := omega) only [wrap_fits]
  have k1 : (if (0 : Int) > res then (0 : Int) else res) = res := by split <;> omega
  have l3 : ∀ a b d : List DV, (([a, b, d].length : Nat) : Int) = 3 := fun _ _ _ => rfl
  simp only [k1, List.set_cons_zero, List.take_succ_cons, List.take_zero, l3]
  repeat' (refine cond_of (fun _ => ?_) (fun _ => ?_))
  all_goals first
    | rfl
    | (exfalso; simp at *; omega)

set_option maxRecDepth 100000 in
theorem lifted (os : Os) (started : os.Started) (H : Type) (enc : TypeId × Value → H) :
    ReturnsInHanded {} Try.checked os 7 .any (Rows.fitsOneSpec.pre6 enc Try.prog Try.f7 Rows.fitsOneRow.domain false) (Rows.fitsOneSpec.post enc Try.prog Try.f7 false true false false) := by
  refine returnsInHanded_of_change (C := Try.checked) own started (by kernel_rfl) Try.func7
    (ChangeSpec.witness6 (enc := enc) (C := Try.checked) false ⟨#[], #[.int .i64 0, .int .i64 0, .int .i64 0, .int .i64 0, .int .i64 0, .int .i64 0, .int .i64 0, .int .i64 0], []⟩ 8 (by kernel_rfl) (by kernel_rfl) (by kernel_rfl) (by kernel_rfl)) ?_
  intro W base args ds gs before hval0 hW hcnd _
  exact law_contract (H := H) (enc := enc) (s := Rows.fitsOneSpec) (fn := Try.f7) (by kernel_rfl) rfl (n := 8) (Ks := kinds) (by kernel_rfl) (by kernel_rfl) (rt := 4) (by kernel_rfl) (by kernel_rfl)
    (fun ds h => by
      have h' : ds.length = 8 := h
      obtain ⟨d0, d1, d2, d3, d4, d5, d6, d7, rfl⟩ := len8 h'
      exact ⟨rfl, rfl, rfl⟩) runsS W base args ds gs before hval0 hW

theorem over : Rows.fitsOneRow.holds Try.pinned (OpenSpec.ofChange Rows.fitsOneSpec) :=
  OpenClaim.holds_of_wide 7 Try.f7 rfl rfl rfl rfl rfl rfl rfl ⟨rfl, rfl, rfl, rfl, rfl⟩ rfl rfl rfl rfl rfl (by kernel_rfl) Try.func7 (by kernel_rfl)
    (of_decide_eq_true (by kernel_rfl)) (by unfold Func.isWrapper; first | (rw [if_pos (by decide +kernel)]; kernel_rfl) | (rw [if_neg (by decide +kernel)]; exact ⟨rfl, rfl⟩))
    (fun os started H enc _ => lifted os started H enc)

/-- ████ THE STATEMENT ████ -/
theorem proved : Rows.FitsOneSaid :=
  over
#print axioms proved
end Go.Proofs.Ythjcfiekdejdgaa.fitsOne
