/- The statement 'Rows.CashWorthSaid': its function is run by the pure machine on data of its parameters' kinds; it gives true. No condition. -/
import Derived.Test.YtianifckopijjaaRows
import Derived.Test.YtianifckopijjaaSa
import Derived.WalkKit
import Derived.ProofKit
import Derived.OpenShut
import Derived.ShutString
namespace Go.Proofs.Ytianifckopijjaa.cashWorth
open Go Go.Proofs Go.ChangeShapes Go.WideShapes Go.ChangeAt Go.RowKit Vm
set_option linter.unusedVariables false
set_option linter.unusedSimpArgs false

theorem own : ownKnob Try.prog.godebug = none := by kernel_rfl

def kinds : List Kd := [.int .i64, .int .i64, .int .i64]
theorem l5 (L n : Nat) (a b c : Int) : FK tab sp2 lsp0 L (n+8) 5 [.int .i64 a, .int .i64 b, .int .i64 c] =
    (cond (bif bif bif bif bif decide (a < (0 : Int)) then true else decide (a > (2147483648 : Int)) then true else decide (b < (0 : Int)) then true else decide (b > (2147483648 : Int)) then true else decide (c < (0 : Int)) then true else decide (c > (10000 : Int)))
     (some (.bool true))
     (need (worthS.D [DV.int IntKind.i64 a, DV.int IntKind.i64 b, DV.int IntKind.i64 c])
      (need (lessS.D [DV.int IntKind.i64 (IntKind.i64.wrap (a * b)), DV.int IntKind.i64 c])
       (need (worthS.D [DV.int IntKind.i64 b, DV.int IntKind.i64 a, DV.int IntKind.i64 c])
        (cond (bif bif bif !badL (IntKind.i64.wrap (a * b)) c then true else false then lessI (a * b) c == bif badL (IntKind.i64.wrap (a * b)) c then (0 : Int) else lessI (IntKind.i64.wrap (a * b)) c else false then lessI (b * a) c == lessI (a * b) c else false)
         (need (trueS.D [])
          (some (.bool true))
         )
         (some (.bool false))
        )
       )
      )
     )
    ) := by kernel_rfl
theorem runsS (xs : List DV) (h : KVs kinds xs) : Ent Try.prog 5 xs (.bool true) := by
  simp only [kinds, KVs, KV, KC] at h
  obtain ⟨x, xs', rfl, ⟨a, hx, w1⟩, y, ys', rfl, ⟨b, hy, w2⟩, z, zs', rfl, ⟨c, hz, w3⟩, rfl⟩ := h
  cases hx
  cases hy
  cases hz
  refine of_FK tab_ok sp2_ok (L := 100) (n := 0 + 8) ((l5 100 0 a b c).trans ?_)
  refine cond_of (fun _ => rfl) (fun h => ?_)
  have hb : 0 ≤ a ∧ 0 ≤ b ∧ b ≤ 2147483648 ∧ a ≤ 2147483648 ∧ 0 ≤ c ∧ c ≤ 10000 := by
    simp at h
    omega
  clear h w1 w2 w3
  obtain ⟨A, rfl⟩ : ∃ A : Nat, a = (A : Int) := ⟨a.toNat, by omega⟩
  obtain ⟨B, rfl⟩ : ∃ B : Nat, b = (B : Int) := ⟨b.toNat, by omega⟩
  obtain ⟨C, rfl⟩ : ∃ C : Nat, c = (C : Int) := ⟨c.toNat, by omega⟩
  have hp : A * B ≤ 2147483648 * 2147483648 := Nat.mul_le_mul (by omega) (by omega)
  have hw : IntKind.i64.wrap ((A : Int) * B) = (A : Int) * B := by
    rw [mulN]
    exact wrap_fits (by omega) (by omega)
  have hw2 : is64 ((A : Int) * B) := by
    rw [mulN]
    exact ⟨by omega, by omega⟩
  have hbad : badL ((A : Int) * B) C = false := by
    rw [mulN]
    exact decide_eq_false (by omega)
  rw [hw, hbad, Int.mul_comm (B : Int) (A : Int)]
  refine (need_pos ⟨A, B, C, rfl, by omega, by omega, by omega⟩).trans ?_
  refine (need_pos ⟨(A : Int) * B, C, rfl, hw2, ⟨by omega, by omega⟩⟩).trans ?_
  refine (need_pos ⟨B, A, C, rfl, by omega, by omega, by omega⟩).trans ?_
  simp only [cond_false, cond_true, Bool.not_false, beq_self_eq_true]
  exact need_pos rfl

set_option maxRecDepth 100000 in
theorem lifted (os : Os) (started : os.Started) (H : Type) (enc : TypeId × Value → H) :
    ReturnsInHanded {} Try.checked os 5 .any (Rows.cashWorthSpec.pre6 enc Try.prog Try.f5 Rows.cashWorthRow.domain false) (Rows.cashWorthSpec.post enc Try.prog Try.f5 false true false false) := by
  refine returnsInHanded_of_change (C := Try.checked) own started (by kernel_rfl) Try.func5
    (ChangeSpec.witness6 (enc := enc) (C := Try.checked) false ⟨#[], #[.int .i64 0, .int .i64 0, .int .i64 0], []⟩ 8 (by kernel_rfl) (by kernel_rfl) (by kernel_rfl) (by kernel_rfl)) ?_
  intro W base args ds gs before hval0 hW hcnd _
  exact law_contract (H := H) (enc := enc) (s := Rows.cashWorthSpec) (fn := Try.f5) (by kernel_rfl) rfl (n := 8) (Ks := kinds) (by kernel_rfl) (by kernel_rfl) (rt := 4) (by kernel_rfl) (by kernel_rfl)
    (fun ds h => by
      have h' : ds.length = 3 := h
      obtain ⟨d0, d1, d2, rfl⟩ := len3 h'
      exact ⟨rfl, rfl, rfl⟩) runsS W base args ds gs before hval0 hW

theorem over : Rows.cashWorthRow.holds Try.pinned (OpenSpec.ofChange Rows.cashWorthSpec) :=
  OpenClaim.holds_of_wide 5 Try.f5 rfl rfl rfl rfl rfl rfl rfl ⟨rfl, rfl, rfl, rfl, rfl⟩ rfl rfl rfl rfl rfl (by kernel_rfl) Try.func5 (by kernel_rfl)
    (of_decide_eq_true (by kernel_rfl)) (by unfold Func.isWrapper; first | (rw [if_pos (by decide +kernel)]; kernel_rfl) | (rw [if_neg (by decide +kernel)]; exact ⟨rfl, rfl⟩))
    (fun os started H enc _ => lifted os started H enc)

/-- ████ THE STATEMENT ████ -/
theorem proved : Rows.CashWorthSaid :=
  over
#print axioms proved
end Go.Proofs.Ytianifckopijjaa.cashWorth
