/- The statement 'Rows.CashCutsSaid': its function is run by the pure machine on data of its parameters' kinds; it gives true. No condition. -/
import Derived.Test.YtianifckopijjaaRows
import Derived.Test.YtianifckopijjaaSa
import Derived.WalkKit
import Derived.ProofKit
import Derived.OpenShut
import Derived.ShutString
namespace Go.Proofs.Ytianifckopijjaa.cashCuts
open Go Go.Proofs Go.ChangeShapes Go.WideShapes Go.ChangeAt Go.RowKit Vm
set_option linter.unusedVariables false
set_option linter.unusedSimpArgs false

theorem own : ownKnob Try.prog.godebug = none := by kernel_rfl

def kinds : List Kd := [.int .i64, .int .i64, .int .i64]
theorem l4 (L n : Nat) (a b c : Int) : FK tab sp2 lsp0 L (n+8) 4 [.int .i64 a, .int .i64 b, .int .i64 c] =
    (cond (bif bif bif bif bif decide (a < (0 : Int)) then true else decide (b < (0 : Int)) then true else decide (b > (2305843009213693952 : Int)) then true else decide (a > (2305843009213693952 : Int)) then true else decide (c < (0 : Int)) then true else decide (c > (10000 : Int)))
     (some (.bool true))
     (need (lessS.D [DV.int IntKind.i64 a, DV.int IntKind.i64 c])
      (need (lessS.D [DV.int IntKind.i64 (IntKind.i64.wrap (a + b)), DV.int IntKind.i64 c])
       (need (lessS.D [DV.int IntKind.i64 a, DV.int IntKind.i64 (0 : Int)])
        (need (lessS.D [DV.int IntKind.i64 a, DV.int IntKind.i64 (10000 : Int)])
         (cond (bif bif bif bif bif bif bif bif !badL a c then !badL (IntKind.i64.wrap (a + b)) c else false then !badL a (0 : Int) else false then !badL a (10000 : Int) else false then decide ((bif badL a c then (0 : Int) else lessI a c) ≥ (0 : Int)) else false then decide ((bif badL a c then (0 : Int) else lessI a c) ≤ a) else false then decide ((bif badL a c then (0 : Int) else lessI a c) ≤ bif badL (IntKind.i64.wrap (a + b)) c then (0 : Int) else lessI (IntKind.i64.wrap (a + b)) c) else false then (bif badL a (0 : Int) then (0 : Int) else lessI a (0 : Int)) == a else false then (bif badL a (10000 : Int) then (0 : Int) else lessI a (10000 : Int)) == (0 : Int) else false)
          (need (trueS.D [])
           (some (.bool true))
          )
          (some (.bool false))
         )
        )
       )
      )
     )
    ) := by kernel_rfl
theorem less_div (n k : Nat) : n / 10000 * k + n % 10000 * k / 10000 = n * k / 10000 := by
  have h : n * k = 10000 * (n / 10000 * k) + n % 10000 * k := by
    have h1 := Nat.div_add_mod n 10000
    calc n * k = (10000 * (n / 10000) + n % 10000) * k := by rw [h1]
      _ = 10000 * (n / 10000 * k) + n % 10000 * k := by rw [Nat.add_mul, Nat.mul_assoc]
  rw [h, Nat.mul_add_div (by omega)]
theorem runsS (xs : List DV) (h : KVs kinds xs) : Ent Try.prog 4 xs (.bool true) := by
  simp only [kinds, KVs, KV, KC] at h
  obtain ⟨x, xs', rfl, ⟨a, hx, w1⟩, y, ys', rfl, ⟨b, hy, w2⟩, z, zs', rfl, ⟨c, hz, w3⟩, rfl⟩ := h
  cases hx
  cases hy
  cases hz
  refine of_FK tab_ok sp2_ok (L := 100) (n := 0 + 8) ((l4 100 0 a b c).trans ?_)
  refine cond_of (fun _ => rfl) (fun h => ?_)
  have hb : 0 ≤ a ∧ 0 ≤ b ∧ b ≤ 2305843009213693952 ∧ a ≤ 2305843009213693952 ∧ 0 ≤ c ∧ c ≤ 10000 := by
    simp at h
    omega
  clear h w1 w2 w3
  obtain ⟨h1, h2, h3, h4, h5, h6⟩ := hb
  have hw : IntKind.i64.wrap (a + b) = a + b := wrap_fits (by omega) (by omega)
  rw [hw]
  refine (need_pos ⟨a, c, rfl, ⟨by omega, by omega⟩, ⟨by omega, by omega⟩⟩).trans ?_
  refine (need_pos ⟨a + b, c, rfl, ⟨by omega, by omega⟩, ⟨by omega, by omega⟩⟩).trans ?_
  refine (need_pos ⟨a, 0, rfl, ⟨by omega, by omega⟩, ⟨by omega, by omega⟩⟩).trans ?_
  refine (need_pos ⟨a, 10000, rfl, ⟨by omega, by omega⟩, ⟨by omega, by omega⟩⟩).trans ?_
  obtain ⟨A, rfl⟩ : ∃ A : Nat, a = (A : Int) := ⟨a.toNat, by omega⟩
  obtain ⟨B, rfl⟩ : ∃ B : Nat, b = (B : Int) := ⟨b.toNat, by omega⟩
  obtain ⟨C, rfl⟩ : ∃ C : Nat, c = (C : Int) := ⟨c.toNat, by omega⟩
  have b1 : badL A C = false := decide_eq_false (by omega)
  have b2 : badL ((A : Int) + B) C = false := decide_eq_false (by omega)
  have b3 : badL A 0 = false := decide_eq_false (by omega)
  have b4 : badL A 10000 = false := decide_eq_false (by omega)
  have e1 := lessI_nat A C (by omega)
  have e2 : lessI ((A : Int) + B) C = _ := lessI_nat (A + B) C (by omega)
  have e3 : lessI A 0 = _ := lessI_nat A 0 (by omega)
  have e4 : lessI A 10000 = _ := lessI_nat A 10000 (by omega)
  rw [less_div] at e1 e2 e3 e4
  have e3' : lessI A 0 = A := by rw [e3]; omega
  have e4' : lessI A 10000 = 0 := by rw [e4]; simp
  have l1 : A * (10000 - C) / 10000 ≤ A := Nat.div_le_of_le_mul (by rw [Nat.mul_comm 10000]; exact Nat.mul_le_mul_left _ (by omega))
  have l2 : A * (10000 - C) / 10000 ≤ (A + B) * (10000 - C) / 10000 := Nat.div_le_div_right (Nat.mul_le_mul_right _ (by omega))
  simp only [b1, b2, b3, b4, cond_false, cond_true, Bool.not_false, e1, e2, e3', e4', beq_self_eq_true]
  rw [decide_eq_true (show ((A * (10000 - C) / 10000 : Nat) : Int) ≥ 0 by omega), decide_eq_true (show ((A * (10000 - C) / 10000 : Nat) : Int) ≤ (A : Int) by omega), decide_eq_true (show ((A * (10000 - C) / 10000 : Nat) : Int) ≤ (((A + B) * (10000 - C) / 10000 : Nat) : Int) by omega)]
  exact need_pos rfl

set_option maxRecDepth 100000 in
theorem lifted (os : Os) (started : os.Started) (H : Type) (enc : TypeId × Value → H) :
    ReturnsInHanded {} Try.checked os 4 .any (Rows.cashCutsSpec.pre6 enc Try.prog Try.f4 Rows.cashCutsRow.domain false) (Rows.cashCutsSpec.post enc Try.prog Try.f4 false true false false) := by
  refine returnsInHanded_of_change (C := Try.checked) own started (by kernel_rfl) Try.func4
    (ChangeSpec.witness6 (enc := enc) (C := Try.checked) false ⟨#[], #[.int .i64 0, .int .i64 0, .int .i64 0], []⟩ 8 (by kernel_rfl) (by kernel_rfl) (by kernel_rfl) (by kernel_rfl)) ?_
  intro W base args ds gs before hval0 hW hcnd _
  exact law_contract (H := H) (enc := enc) (s := Rows.cashCutsSpec) (fn := Try.f4) (by kernel_rfl) rfl (n := 8) (Ks := kinds) (by kernel_rfl) (by kernel_rfl) (rt := 4) (by kernel_rfl) (by kernel_rfl)
    (fun ds h => by
      have h' : ds.length = 3 := h
      obtain ⟨d0, d1, d2, rfl⟩ := len3 h'
      exact ⟨rfl, rfl, rfl⟩) runsS W base args ds gs before hval0 hW

theorem over : Rows.cashCutsRow.holds Try.pinned (OpenSpec.ofChange Rows.cashCutsSpec) :=
  OpenClaim.holds_of_wide 4 Try.f4 rfl rfl rfl rfl rfl rfl rfl ⟨rfl, rfl, rfl, rfl, rfl⟩ rfl rfl rfl rfl rfl (by kernel_rfl) Try.func4 (by kernel_rfl)
    (of_decide_eq_true (by kernel_rfl)) (by unfold Func.isWrapper; first | (rw [if_pos (by decide +kernel)]; kernel_rfl) | (rw [if_neg (by decide +kernel)]; exact ⟨rfl, rfl⟩))
    (fun os started H enc _ => lifted os started H enc)

/-- ████ THE STATEMENT ████ -/
theorem proved : Rows.CashCutsSaid :=
  over
#print axioms proved
end Go.Proofs.Ytianifckopijjaa.cashCuts
