/- The statement 'Rows.PayChecksSaid': its function is run by the pure machine on data of its parameters' kinds; it gives true. No condition. -/
import Derived.Test.YtgckkedngcplmaaRows
import Derived.Test.YtgckkedngcplmaaSa
import Derived.WalkKit
import Derived.ProofKit
import Derived.OpenShut
import Derived.ShutString
namespace Go.Proofs.Ytgckkedngcplmaa.payChecks
open Go Go.Proofs Go.ChangeShapes Go.WideShapes Go.ChangeAt Go.RowKit Vm
set_option linter.unusedVariables false

theorem own : ownKnob Try.prog.godebug = none := by kernel_rfl

def kinds : List Kd := [.struct [.int .i64, .slice (.struct [.int .i64, .int .i64]), .int .i64, .int .i64, .int .i64], .int .i64, .struct [.int .i64, .int .i64, .int .i64, .int .i64, .int .i64, .int .i64, .int .i64]]
theorem tA (L n : Nat) (pa cu cl pe t a0 a1 a2 a3 a4 a5 a6 : Int) (q : SK) (es : List (List DV)) : FK tab sp1 lsp L (n+8) 3 [.agg [.int .i64 pa, .sl q 2 es, .int .i64 cu, .int .i64 cl, .int .i64 pe], .int .i64 t, .agg [.int .i64 a0, .int .i64 a1, .int .i64 a2, .int .i64 a3, .int .i64 a4, .int .i64 a5, .int .i64 a6]] =
    (cond (decide (↑es.length > (20 : Int)))
     (some (.bool true))
     (need (isS.D [DV.agg (List.take (5 : Nat) (List.drop (0 : Nat) [DV.int IntKind.i64 pa, DV.sl q (2 : Nat) es, DV.int IntKind.i64 cu, DV.int IntKind.i64 cl, DV.int IntKind.i64 pe]))])
      (cond (!isR pa (rows (DV.sl q (2 : Nat) es)) cu cl pe)
       (some (.bool true))
       (cond (!bif bif bif bif bif bif bif bif decide (a1 ≥ (0 : Int)) then decide (a1 < pa) else false then bif decide (a2 ≥ (0 : Int)) then decide (a2 < pa) else false else false then a1 != a2 else false then bif bif bif bif decide (a0 ≥ (1 : Int)) then decide (a3 ≥ (1 : Int)) else false then decide (a3 ≤ (1099511627776 : Int)) else false then decide (a4 ≥ (1 : Int)) else false then decide (a4 ≤ (3 : Int)) else false else false then decide (a5 ≥ (0 : Int)) else false then decide (a5 ≤ a6) else false then decide (a6 ≥ t) else false then decide (a6 ≤ (1048576 : Int)) else false)
        (cond (bif bif bif bif bif bif bif bif bif bif bif bif bif decide (a0 < (1 : Int)) then true else decide (a1 < (0 : Int)) then true else decide (a1 ≥ pa) then true else decide (a2 < (0 : Int)) then true else decide (a2 ≥ pa) then true else a1 == a2 then true else decide (a3 < (1 : Int)) then true else decide (a3 > (1099511627776 : Int)) then true else decide (a4 < (1 : Int)) then true else decide (a4 > (3 : Int)) then true else decide (a5 < (0 : Int)) then true else decide (a5 > a6) then true else decide (a6 < t) then true else decide (a6 > (1048576 : Int)))
         (cond (bif bif (1 : Int) == (1 : Int) then (bif decide (t ≥ a5) then decide (t ≤ a6) else false) == bif decide (t ≥ a5) then decide (t ≤ a6) else false else false then decide (t > a6) == decide (t > a6) else false)
          (need (trueS.D [])
           (some (.bool true))
          )
          (some (.bool false))
         )
         (cond (bif decide (t ≥ cl) then true else bif a4 == (3 : Int) then decide (t ≥ cu) else false)
          (some (.bool false))
          (some (.bool false))
         )
        )
        (cond (bif decide (t ≥ cl) then true else bif a4 == (3 : Int) then decide (t ≥ cu) else false)
         (cond (bif bif bif bif bif bif bif bif bif bif bif bif bif decide (a0 < (1 : Int)) then true else decide (a1 < (0 : Int)) then true else decide (a1 ≥ pa) then true else decide (a2 < (0 : Int)) then true else decide (a2 ≥ pa) then true else a1 == a2 then true else decide (a3 < (1 : Int)) then true else decide (a3 > (1099511627776 : Int)) then true else decide (a4 < (1 : Int)) then true else decide (a4 > (3 : Int)) then true else decide (a5 < (0 : Int)) then true else decide (a5 > a6) then true else decide (a6 < t) then true else decide (a6 > (1048576 : Int)))
          (some (.bool false))
          (cond (bif decide (t ≥ cl) then true else bif a4 == (3 : Int) then decide (t ≥ cu) else false)
           (cond (bif bif (7 : Int) == (7 : Int) then (bif decide (t ≥ a5) then decide (t ≤ a6) else false) == bif decide (t ≥ a5) then decide (t ≤ a6) else false else false then decide (t > a6) == decide (t > a6) else false)
            (need (trueS.D [])
             (some (.bool true))
            )
            (some (.bool false))
           )
           (some (.bool false))
          )
         )
         (cond (bif bif bif bif bif bif bif bif bif bif bif bif bif decide (a0 < (1 : Int)) then true else decide (a1 < (0 : Int)) then true else decide (a1 ≥ pa) then true else decide (a2 < (0 : Int)) then true else decide (a2 ≥ pa) then true else a1 == a2 then true else decide (a3 < (1 : Int)) then true else decide (a3 > (1099511627776 : Int)) then true else decide (a4 < (1 : Int)) then true else decide (a4 > (3 : Int)) then true else decide (a5 < (0 : Int)) then true else decide (a5 > a6) then true else decide (a6 < t) then true else decide (a6 > (1048576 : Int)))
          (some (.bool false))
          (cond (bif decide (t ≥ cl) then true else bif a4 == (3 : Int) then decide (t ≥ cu) else false)
           (some (.bool false))
           (cond (bif bif (0 : Int) == (0 : Int) then (bif decide (t ≥ a5) then decide (t ≤ a6) else false) == bif decide (t ≥ a5) then decide (t ≤ a6) else false else false then decide (t > a6) == decide (t > a6) else false)
            (need (trueS.D [])
             (some (.bool true))
            )
            (some (.bool false))
           )
          )
         )
        )
       )
      )
     )
    ) := by kernel_rfl
theorem tN (L n : Nat) (pa cu cl pe t a0 a1 a2 a3 a4 a5 a6 : Int) : FK tab sp1 lsp L (n+8) 3 [.agg [.int .i64 pa, .nilsl, .int .i64 cu, .int .i64 cl, .int .i64 pe], .int .i64 t, .agg [.int .i64 a0, .int .i64 a1, .int .i64 a2, .int .i64 a3, .int .i64 a4, .int .i64 a5, .int .i64 a6]] =
    (need (isS.D [DV.agg (List.take (5 : Nat) (List.drop (0 : Nat) [DV.int IntKind.i64 pa, DV.nilsl, DV.int IntKind.i64 cu, DV.int IntKind.i64 cl, DV.int IntKind.i64 pe]))])
     (cond (!isR pa (rows DV.nilsl) cu cl pe)
      (some (.bool true))
      (cond (!bif bif bif bif bif bif bif bif decide (a1 ≥ (0 : Int)) then decide (a1 < pa) else false then bif decide (a2 ≥ (0 : Int)) then decide (a2 < pa) else false else false then a1 != a2 else false then bif bif bif bif decide (a0 ≥ (1 : Int)) then decide (a3 ≥ (1 : Int)) else false then decide (a3 ≤ (1099511627776 : Int)) else false then decide (a4 ≥ (1 : Int)) else false then decide (a4 ≤ (3 : Int)) else false else false then decide (a5 ≥ (0 : Int)) else false then decide (a5 ≤ a6) else false then decide (a6 ≥ t) else false then decide (a6 ≤ (1048576 : Int)) else false)
       (cond (bif bif bif bif bif bif bif bif bif bif bif bif bif decide (a0 < (1 : Int)) then true else decide (a1 < (0 : Int)) then true else decide (a1 ≥ pa) then true else decide (a2 < (0 : Int)) then true else decide (a2 ≥ pa) then true else a1 == a2 then true else decide (a3 < (1 : Int)) then true else decide (a3 > (1099511627776 : Int)) then true else decide (a4 < (1 : Int)) then true else decide (a4 > (3 : Int)) then true else decide (a5 < (0 : Int)) then true else decide (a5 > a6) then true else decide (a6 < t) then true else decide (a6 > (1048576 : Int)))
        (cond (bif bif (1 : Int) == (1 : Int) then (bif decide (t ≥ a5) then decide (t ≤ a6) else false) == bif decide (t ≥ a5) then decide (t ≤ a6) else false else false then decide (t > a6) == decide (t > a6) else false)
         (need (trueS.D [])
          (some (.bool true))
         )
         (some (.bool false))
        )
        (cond (bif decide (t ≥ cl) then true else bif a4 == (3 : Int) then decide (t ≥ cu) else false)
         (some (.bool false))
         (some (.bool false))
        )
       )
       (cond (bif decide (t ≥ cl) then true else bif a4 == (3 : Int) then decide (t ≥ cu) else false)
        (cond (bif bif bif bif bif bif bif bif bif bif bif bif bif decide (a0 < (1 : Int)) then true else decide (a1 < (0 : Int)) then true else decide (a1 ≥ pa) then true else decide (a2 < (0 : Int)) then true else decide (a2 ≥ pa) then true else a1 == a2 then true else decide (a3 < (1 : Int)) then true else decide (a3 > (1099511627776 : Int)) then true else decide (a4 < (1 : Int)) then true else decide (a4 > (3 : Int)) then true else decide (a5 < (0 : Int)) then true else decide (a5 > a6) then true else decide (a6 < t) then true else decide (a6 > (1048576 : Int)))
         (some (.bool false))
         (cond (bif decide (t ≥ cl) then true else bif a4 == (3 : Int) then decide (t ≥ cu) else false)
          (cond (bif bif (7 : Int) == (7 : Int) then (bif decide (t ≥ a5) then decide (t ≤ a6) else false) == bif decide (t ≥ a5) then decide (t ≤ a6) else false else false then decide (t > a6) == decide (t > a6) else false)
           (need (trueS.D [])
            (some (.bool true))
           )
           (some (.bool false))
          )
          (some (.bool false))
         )
        )
        (cond (bif bif bif bif bif bif bif bif bif bif bif bif bif decide (a0 < (1 : Int)) then true else decide (a1 < (0 : Int)) then true else decide (a1 ≥ pa) then true else decide (a2 < (0 : Int)) then true else decide (a2 ≥ pa) then true else a1 == a2 then true else decide (a3 < (1 : Int)) then true else decide (a3 > (1099511627776 : Int)) then true else decide (a4 < (1 : Int)) then true else decide (a4 > (3 : Int)) then true else decide (a5 < (0 : Int)) then true else decide (a5 > a6) then true else decide (a6 < t) then true else decide (a6 > (1048576 : Int)))
         (some (.bool false))
         (cond (bif decide (t ≥ cl) then true else bif a4 == (3 : Int) then decide (t ≥ cu) else false)
          (some (.bool false))
          (cond (bif bif (0 : Int) == (0 : Int) then (bif decide (t ≥ a5) then decide (t ≤ a6) else false) == bif decide (t ≥ a5) then decide (t ≤ a6) else false else false then decide (t > a6) == decide (t > a6) else false)
           (need (trueS.D [])
            (some (.bool true))
           )
           (some (.bool false))
          )
         )
        )
       )
      )
     )
    ) := by kernel_rfl
theorem runsS (xs : List DV) (h : KVs kinds xs) : ∃ call, CallOk Try.prog call ∧ call 3 xs = some (.bool true) := by
  simp only [kinds, KVs, KV, KC, KCs] at h
  obtain ⟨x, xs', rfl, ⟨ps, rfl, _, _, rfl, ⟨pa, rfl, _⟩, _, _, rfl, hs, _, _, rfl, ⟨cu, rfl, _⟩, _, _, rfl, ⟨cl, rfl, _⟩, _, _, rfl, ⟨pe, rfl, _⟩, rfl⟩, x2, xs2, rfl, ⟨t, hx2, w1⟩, x3, xs3, rfl, ⟨pp, rfl, _, _, rfl, ⟨a0, rfl, _⟩, _, _, rfl, ⟨a1, rfl, _⟩, _, _, rfl, ⟨a2, rfl, _⟩, _, _, rfl, ⟨a3, rfl, _⟩, _, _, rfl, ⟨a4, rfl, _⟩, _, _, rfl, ⟨a5, rfl, _⟩, _, _, rfl, ⟨a6, rfl, _⟩, rfl⟩, rfl⟩ := h
  cases hx2
  have needT : ∀ a, need (trueS.D []) a = a := fun a => need_pos rfl
  rcases hs with rfl | ⟨es, rfl, hes⟩
  · have hD : isS.D [.agg [.int .i64 pa, .nilsl, .int .i64 cu, .int .i64 cl, .int .i64 pe]] := ⟨pa, .nilsl, cu, cl, pe, rfl, .inl rfl⟩
    refine of_FK tab_ok sp1_ok (L := 100) (n := 0 + 8) ((tN 100 0 pa cu cl pe t a0 a1 a2 a3 a4 a5 a6).trans ?_)
    refine (need_pos hD).trans ?_
    simp only [needT]
    generalize hR : isR pa (rows .nilsl) cu cl pe = R
    have hR' : R = true → 1 ≤ cl ∧ cl ≤ 1048576 ∧ 0 ≤ cu ∧ cu ≤ cl ∧ 1 ≤ pe := fun h => by
      rw [h] at hR
      simp only [isR, Bool.and_eq_true, decide_eq_true_eq] at hR
      omega
    clear hD hR
    repeat' (first | rfl | (refine cond_of (fun h => ?_) (fun h => ?_)))
    all_goals first
      | rfl
      | (exfalso; simp_all; done)
      | (exfalso; simp_all; omega)
  · refine of_FK tab_ok sp1_ok (L := 100) (n := 0 + 8) ((tA 100 0 pa cu cl pe t a0 a1 a2 a3 a4 a5 a6 .ro es).trans ?_)
    refine cond_of (fun _ => rfl) (fun hl => ?_)
    have hD : isS.D [.agg [.int .i64 pa, .sl .ro 2 es, .int .i64 cu, .int .i64 cl, .int .i64 pe]] := ⟨pa, .sl .ro 2 es, cu, cl, pe, rfl, .inr ⟨.ro, es, rfl, fun e he => by
        obtain ⟨_, _, rfl, ⟨a, rfl, _⟩, _, _, rfl, ⟨b, rfl, _⟩, rfl⟩ := hes e he
        rfl, by simp at hl; omega⟩⟩
    refine (need_pos hD).trans ?_
    simp only [needT]
    generalize hR : isR pa (rows (.sl .ro 2 es)) cu cl pe = R
    have hR' : R = true → 1 ≤ cl ∧ cl ≤ 1048576 ∧ 0 ≤ cu ∧ cu ≤ cl ∧ 1 ≤ pe := fun h => by
      rw [h] at hR
      simp only [isR, Bool.and_eq_true, decide_eq_true_eq] at hR
      omega
    clear hD hR hes hl
    repeat' (first | rfl | (refine cond_of (fun h => ?_) (fun h => ?_)))
    all_goals first
      | rfl
      | (exfalso; simp_all; done)
      | (exfalso; simp_all; omega)

set_option maxRecDepth 100000 in
theorem lifted (os : Os) (started : os.Started) (H : Type) (enc : TypeId × Value → H) :
    ReturnsInHanded {} Try.checked os 3 .any (Rows.payChecksSpec.pre6 enc Try.prog Try.f3 Rows.payChecksRow.domain false) (Rows.payChecksSpec.post enc Try.prog Try.f3 false true false false) := by
  refine returnsInHanded_of_change (C := Try.checked) own started (by kernel_rfl) Try.func3
    (ChangeSpec.witness6 (enc := enc) (C := Try.checked) false ⟨#[], #[.agg #[.int .i64 0, .slice none 0 0, .int .i64 0, .int .i64 0, .int .i64 0], .int .i64 0, .agg #[.int .i64 0, .int .i64 0, .int .i64 0, .int .i64 0, .int .i64 0, .int .i64 0, .int .i64 0]], []⟩ 8 (by kernel_rfl) (by kernel_rfl) (by kernel_rfl) (by kernel_rfl)) ?_
  intro W base args ds gs before hval0 hW hcnd _
  exact law_contract (H := H) (enc := enc) (s := Rows.payChecksSpec) (fn := Try.f3) (by kernel_rfl) rfl (n := 8) (Ks := kinds) (by kernel_rfl) (by kernel_rfl) (rt := 4) (by kernel_rfl) (by kernel_rfl)
    (fun ds h => by
      have h' : ds.length = 3 := h
      obtain ⟨d0, d1, d2, rfl⟩ := len3 h'
      exact ⟨rfl, rfl, rfl⟩) runsS W base args ds gs before hval0 hW

theorem over : Rows.payChecksRow.holds Try.pinned (OpenSpec.ofChange Rows.payChecksSpec) :=
  OpenClaim.holds_of_wide 3 Try.f3 rfl rfl rfl rfl rfl rfl rfl ⟨rfl, rfl, rfl, rfl, rfl⟩ rfl rfl rfl rfl rfl (by kernel_rfl) Try.func3 (by kernel_rfl)
    (of_decide_eq_true (by kernel_rfl)) (by unfold Func.isWrapper; first | (rw [if_pos (by decide +kernel)]; kernel_rfl) | (rw [if_neg (by decide +kernel)]; exact ⟨rfl, rfl⟩))
    (fun os started H enc _ => lifted os started H enc)

/-- ████ THE STATEMENT ████ -/
theorem proved : Rows.PayChecksSaid :=
  over
#print axioms proved
end Go.Proofs.Ytgckkedngcplmaa.payChecks
