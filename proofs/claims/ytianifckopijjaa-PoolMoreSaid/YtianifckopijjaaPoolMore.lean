/- The statement 'Rows.PoolMoreSaid': its function is run by the pure machine on data of its parameters' kinds; it gives true. No condition. -/
import Derived.Test.YtianifckopijjaaRows
import Derived.Test.YtianifckopijjaaSc
import Derived.WalkKit
import Derived.ProofKit
import Derived.OpenShut
import Derived.ShutString
namespace Go.Proofs.Ytianifckopijjaa.poolMore
open Go Go.Proofs Go.ChangeShapes Go.WideShapes Go.ChangeAt Go.RowKit Vm
set_option linter.unusedVariables false
set_option linter.unusedSimpArgs false

theorem own : ownKnob Try.prog.godebug = none := by kernel_rfl

def kinds : List Kd := [.int .i64, .int .i64, .int .i64, .int .i64, .int .i64]
theorem l10 (n : Nat) (a b c w m : Int) : FK tab sp5 lsp0 20 (n+8) 10 [.int .i64 a, .int .i64 b, .int .i64 c, .int .i64 w, .int .i64 m] =
    (cond (bif bif bif bif bif bif bif bif bif decide (a < (0 : Int)) then true else decide (a > (1048576 : Int)) then true else decide (b < (0 : Int)) then true else decide (b > (1099511627776 : Int)) then true else decide (c < (0 : Int)) then true else decide (c > (10000 : Int)) then true else decide (m < (0 : Int)) then true else decide (m > (10000 : Int)) then true else decide (w < (0 : Int)) then true else decide (w > (2 : Int)))
     (some (.bool true))
     (need (worthS.D [DV.int IntKind.i64 a, DV.int IntKind.i64 b, DV.int IntKind.i64 c])
      (need (sumS.D [DV.sl SK.ro (1 : Nat) [[DV.int IntKind.i64 (lessI (a * b) c)]]])
       (cond (w == (0 : Int))
        (need (worthS.D [DV.int IntKind.i64 (IntKind.i64.wrap (a + m)), DV.int IntKind.i64 b, DV.int IntKind.i64 c])
         (need (sumS.D [DV.sl SK.ro (1 : Nat) [[DV.int IntKind.i64 (lessI (IntKind.i64.wrap (a + m) * b) c)]]])
          (cond (bif bif fitsB (sumZ (rows (DV.sl SK.ro (1 : Nat) [[DV.int IntKind.i64 (lessI (a * b) c)]]))) then fitsB (sumZ (rows (DV.sl SK.ro (1 : Nat) [[DV.int IntKind.i64 (lessI (IntKind.i64.wrap (a + m) * b) c)]]))) else false then decide ((bif fitsB (sumZ (rows (DV.sl SK.ro (1 : Nat) [[DV.int IntKind.i64 (lessI (a * b) c)]]))) then sumZ (rows (DV.sl SK.ro (1 : Nat) [[DV.int IntKind.i64 (lessI (a * b) c)]])) else (0 : Int)) ≤ bif fitsB (sumZ (rows (DV.sl SK.ro (1 : Nat) [[DV.int IntKind.i64 (lessI (IntKind.i64.wrap (a + m) * b) c)]]))) then sumZ (rows (DV.sl SK.ro (1 : Nat) [[DV.int IntKind.i64 (lessI (IntKind.i64.wrap (a + m) * b) c)]])) else (0 : Int)) else false)
           (need (trueS.D [])
            (some (.bool true))
           )
           (some (.bool false))
          )
         )
        )
        (cond (w == (1 : Int))
         (need (worthS.D [DV.int IntKind.i64 a, DV.int IntKind.i64 (IntKind.i64.wrap (b + m)), DV.int IntKind.i64 c])
          (need (sumS.D [DV.sl SK.ro (1 : Nat) [[DV.int IntKind.i64 (lessI (a * IntKind.i64.wrap (b + m)) c)]]])
           (cond (bif bif fitsB (sumZ (rows (DV.sl SK.ro (1 : Nat) [[DV.int IntKind.i64 (lessI (a * b) c)]]))) then fitsB (sumZ (rows (DV.sl SK.ro (1 : Nat) [[DV.int IntKind.i64 (lessI (a * IntKind.i64.wrap (b + m)) c)]]))) else false then decide ((bif fitsB (sumZ (rows (DV.sl SK.ro (1 : Nat) [[DV.int IntKind.i64 (lessI (a * b) c)]]))) then sumZ (rows (DV.sl SK.ro (1 : Nat) [[DV.int IntKind.i64 (lessI (a * b) c)]])) else (0 : Int)) ≤ bif fitsB (sumZ (rows (DV.sl SK.ro (1 : Nat) [[DV.int IntKind.i64 (lessI (a * IntKind.i64.wrap (b + m)) c)]]))) then sumZ (rows (DV.sl SK.ro (1 : Nat) [[DV.int IntKind.i64 (lessI (a * IntKind.i64.wrap (b + m)) c)]])) else (0 : Int)) else false)
            (need (trueS.D [])
             (some (.bool true))
            )
            (some (.bool false))
           )
          )
         )
         (cond (w == (2 : Int))
          (need (worthS.D [DV.int IntKind.i64 a, DV.int IntKind.i64 b, DV.int IntKind.i64 (if IntKind.i64.wrap (c - m) > (0 : Int) then IntKind.i64.wrap (c - m) else (0 : Int))])
           (need (sumS.D [DV.sl SK.ro (1 : Nat) [[DV.int IntKind.i64 (lessI (a * b) (if IntKind.i64.wrap (c - m) > (0 : Int) then IntKind.i64.wrap (c - m) else (0 : Int)))]]])
            (cond (bif bif fitsB (sumZ (rows (DV.sl SK.ro (1 : Nat) [[DV.int IntKind.i64 (lessI (a * b) c)]]))) then fitsB (sumZ (rows (DV.sl SK.ro (1 : Nat) [[DV.int IntKind.i64 (lessI (a * b) (if IntKind.i64.wrap (c - m) > (0 : Int) then IntKind.i64.wrap (c - m) else (0 : Int)))]]))) else false then decide ((bif fitsB (sumZ (rows (DV.sl SK.ro (1 : Nat) [[DV.int IntKind.i64 (lessI (a * b) c)]]))) then sumZ (rows (DV.sl SK.ro (1 : Nat) [[DV.int IntKind.i64 (lessI (a * b) c)]])) else (0 : Int)) ≤ bif fitsB (sumZ (rows (DV.sl SK.ro (1 : Nat) [[DV.int IntKind.i64 (lessI (a * b) (if IntKind.i64.wrap (c - m) > (0 : Int) then IntKind.i64.wrap (c - m) else (0 : Int)))]]))) then sumZ (rows (DV.sl SK.ro (1 : Nat) [[DV.int IntKind.i64 (lessI (a * b) (if IntKind.i64.wrap (c - m) > (0 : Int) then IntKind.i64.wrap (c - m) else (0 : Int)))]])) else (0 : Int)) else false)
             (need (trueS.D [])
              (some (.bool true))
             )
             (some (.bool false))
            )
           )
          )
          (need (worthS.D [DV.int IntKind.i64 a, DV.int IntKind.i64 b, DV.int IntKind.i64 c])
           (need (sumS.D [DV.sl SK.ro (1 : Nat) [[DV.int IntKind.i64 (lessI (a * b) c)]]])
            (cond (bif bif fitsB (sumZ (rows (DV.sl SK.ro (1 : Nat) [[DV.int IntKind.i64 (lessI (a * b) c)]]))) then fitsB (sumZ (rows (DV.sl SK.ro (1 : Nat) [[DV.int IntKind.i64 (lessI (a * b) c)]]))) else false then decide ((bif fitsB (sumZ (rows (DV.sl SK.ro (1 : Nat) [[DV.int IntKind.i64 (lessI (a * b) c)]]))) then sumZ (rows (DV.sl SK.ro (1 : Nat) [[DV.int IntKind.i64 (lessI (a * b) c)]])) else (0 : Int)) ≤ bif fitsB (sumZ (rows (DV.sl SK.ro (1 : Nat) [[DV.int IntKind.i64 (lessI (a * b) c)]]))) then sumZ (rows (DV.sl SK.ro (1 : Nat) [[DV.int IntKind.i64 (lessI (a * b) c)]])) else (0 : Int)) else false)
             (need (trueS.D [])
              (some (.bool true))
             )
             (some (.bool false))
            )
           )
          )
         )
        )
       )
      )
     )
    ) := by kernel_rfl
theorem part {p c : Nat} (hp : p ≤ 4611686018427387904) (hc : c ≤ 10000) : fitsB (lessI p c) = true ∧ is64 (lessI p c) := by
  have h1 := lessI_nat p c hc
  have h2 := lessN_le p c hc
  rw [h1]
  exact ⟨decide_eq_true (by omega), by omega, by omega⟩
theorem fin {x y : Int} (hx : fitsB x = true) (hy : fitsB y = true) (h : x ≤ y) :
    cond (bif bif fitsB x then fitsB y else false then decide ((bif fitsB x then x else 0) ≤ bif fitsB y then y else 0) else false) (need (trueS.D []) (some (DV.bool true))) (some (.bool false)) = some (.bool true) := by
  rw [hx, hy]
  simp only [cond_true]
  rw [decide_eq_true h]
  exact need_pos rfl
theorem mono {p q c d : Nat} (hc : c ≤ 10000) (hd : d ≤ c) (h : p ≤ q) : lessI p c ≤ lessI q d := by
  rw [lessI_eq p c hc, lessI_eq q d (by omega)]
  have : p * (10000 - c) / 10000 ≤ q * (10000 - d) / 10000 := Nat.div_le_div_right (Nat.mul_le_mul h (by omega))
  omega
theorem runsS (xs : List DV) (h : KVs kinds xs) : Ent Try.prog 10 xs (.bool true) := by
  simp only [kinds, KVs, KV, KC] at h
  obtain ⟨_, _, rfl, ⟨a, hx, _⟩, _, _, rfl, ⟨b, hy, _⟩, _, _, rfl, ⟨c, hz, _⟩, _, _, rfl, ⟨w, hu, _⟩, _, _, rfl, ⟨m, hv, _⟩, rfl⟩ := h
  cases hx
  cases hy
  cases hz
  cases hu
  cases hv
  refine of_FK tab_ok sp5_ok (L := 20) (n := 0 + 8) ((l10 0 a b c w m).trans ?_)
  refine cond_of (fun _ => rfl) (fun h => ?_)
  have hb : 0 ≤ a ∧ a ≤ 1048576 ∧ 0 ≤ b ∧ b ≤ 1099511627776 ∧ 0 ≤ c ∧ c ≤ 10000 ∧ 0 ≤ m ∧ m ≤ 10000 ∧ 0 ≤ w ∧ w ≤ 2 := by
    simp at h
    omega
  clear h
  obtain ⟨A, rfl⟩ : ∃ A : Nat, a = (A : Int) := ⟨a.toNat, by omega⟩
  obtain ⟨B, rfl⟩ : ∃ B : Nat, b = (B : Int) := ⟨b.toNat, by omega⟩
  obtain ⟨C, rfl⟩ : ∃ C : Nat, c = (C : Int) := ⟨c.toNat, by omega⟩
  obtain ⟨M, rfl⟩ : ∃ M : Nat, m = (M : Int) := ⟨m.toNat, by omega⟩
  have hp : A * B ≤ 1048576 * 1099511627776 := Nat.mul_le_mul (by omega) (by omega)
  have hp0 : (A + M) * B ≤ 1058576 * 1099511627776 := Nat.mul_le_mul (by omega) (by omega)
  have hp1 : A * (B + M) ≤ 1048576 * 1099511637776 := Nat.mul_le_mul (by omega) (by omega)
  have hw0 : IntKind.i64.wrap ((A : Int) + M) = ((A + M : Nat) : Int) := by rw [wrap_fits] <;> omega
  have hw1 : IntKind.i64.wrap ((B : Int) + M) = ((B + M : Nat) : Int) := by rw [wrap_fits] <;> omega
  have hw2 : IntKind.i64.wrap ((C : Int) - M) = (C : Int) - M := by rw [wrap_fits] <;> omega
  have hD : (if (C : Int) - M > 0 then (C : Int) - M else 0) = ((C - M : Nat) : Int) := by split <;> omega
  rw [hw0, hw1, hw2, hD]
  simp only [sumZ_one, mulN]
  obtain ⟨f1, g1⟩ := part (p := A * B) (c := C) (by omega) (by omega)
  refine (need_pos ⟨A, B, C, rfl, by omega, by omega, by omega, by omega⟩).trans ?_
  refine (need_pos (row64_one g1)).trans ?_
  refine cond_of (fun _ => ?_) (fun _ => cond_of (fun _ => ?_) (fun _ => cond_of (fun _ => ?_) (fun _ => ?_)))
  · obtain ⟨f2, g2⟩ := part (p := (A + M) * B) (c := C) (by omega) (by omega)
    refine (need_pos ⟨A + M, B, C, rfl, by omega, by omega, by omega, by omega⟩).trans ?_
    refine (need_pos (row64_one g2)).trans ?_
    exact fin f1 f2 (mono (by omega) (by omega) (Nat.mul_le_mul_right _ (by omega)))
  · obtain ⟨f2, g2⟩ := part (p := A * (B + M)) (c := C) (by omega) (by omega)
    refine (need_pos ⟨A, B + M, C, rfl, by omega, by omega, by omega, by omega⟩).trans ?_
    refine (need_pos (row64_one g2)).trans ?_
    exact fin f1 f2 (mono (by omega) (by omega) (Nat.mul_le_mul_left _ (by omega)))
  · obtain ⟨f2, g2⟩ := part (p := A * B) (c := C - M) (by omega) (by omega)
    refine (need_pos ⟨A, B, C - M, rfl, by omega, by omega, by omega, by omega⟩).trans ?_
    refine (need_pos (row64_one g2)).trans ?_
    exact fin f1 f2 (mono (by omega) (by omega) (Nat.le_refl _))
  · refine (need_pos ⟨A, B, C, rfl, by omega, by omega, by omega, by omega⟩).trans ?_
    refine (need_pos (row64_one g1)).trans ?_
    exact fin f1 f1 (Int.le_refl _)

set_option maxRecDepth 100000 in
theorem lifted (os : Os) (started : os.Started) (H : Type) (enc : TypeId × Value → H) :
    ReturnsInHanded {} Try.checked os 10 .any (Rows.poolMoreSpec.pre6 enc Try.prog Try.f10 Rows.poolMoreRow.domain false) (Rows.poolMoreSpec.post enc Try.prog Try.f10 false true false false) := by
  refine returnsInHanded_of_change (C := Try.checked) own started (by kernel_rfl) Try.func10
    (ChangeSpec.witness6 (enc := enc) (C := Try.checked) false ⟨#[], #[.int .i64 0, .int .i64 0, .int .i64 0, .int .i64 0, .int .i64 0], []⟩ 8 (by kernel_rfl) (by kernel_rfl) (by kernel_rfl) (by kernel_rfl)) ?_
  intro W base args ds gs before hval0 hW hcnd _
  exact law_contract (H := H) (enc := enc) (s := Rows.poolMoreSpec) (fn := Try.f10) (by kernel_rfl) rfl (n := 8) (Ks := kinds) (by kernel_rfl) (by kernel_rfl) (rt := 4) (by kernel_rfl) (by kernel_rfl)
    (fun ds h => by
      have h' : ds.length = 5 := h
      obtain ⟨d0, d1, d2, d3, d4, rfl⟩ := len5 h'
      exact ⟨rfl, rfl, rfl⟩) runsS W base args ds gs before hval0 hW

theorem over : Rows.poolMoreRow.holds Try.pinned (OpenSpec.ofChange Rows.poolMoreSpec) :=
  OpenClaim.holds_of_wide 10 Try.f10 rfl rfl rfl rfl rfl rfl rfl ⟨rfl, rfl, rfl, rfl, rfl⟩ rfl rfl rfl rfl rfl (by kernel_rfl) Try.func10 (by kernel_rfl)
    (of_decide_eq_true (by kernel_rfl)) (by unfold Func.isWrapper; first | (rw [if_pos (by decide +kernel)]; kernel_rfl) | (rw [if_neg (by decide +kernel)]; exact ⟨rfl, rfl⟩))
    (fun os started H enc _ => lifted os started H enc)

/-- ████ THE STATEMENT ████ -/
theorem proved : Rows.PoolMoreSaid :=
  over
#print axioms proved
end Go.Proofs.Ytianifckopijjaa.poolMore
