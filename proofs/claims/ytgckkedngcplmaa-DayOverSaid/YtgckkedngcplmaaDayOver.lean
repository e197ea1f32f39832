/- The statement 'Rows.DayOverSaid': its function is run by the pure machine on data of its parameters' kinds; it gives true. No condition. -/
import Derived.Test.YtgckkedngcplmaaRows
import Derived.Test.YtgckkedngcplmaaSa
import Derived.WalkKit
import Derived.ProofKit
import Derived.OpenShut
import Derived.ShutString
namespace Go.Proofs.Ytgckkedngcplmaa.dayOver
open Go Go.Proofs Go.ChangeShapes Go.WideShapes Go.ChangeAt Go.RowKit Vm
set_option linter.unusedVariables false

theorem own : ownKnob Try.prog.godebug = none := by kernel_rfl

def kinds : List Kd := [.struct [.int .i64, .slice (.struct [.int .i64, .int .i64]), .int .i64, .int .i64, .int .i64], .int .i64, .int .i64]
theorem tA (L n : Nat) (pa cu cl pe t c : Int) (q : SK) (es : List (List DV)) : FK tab sp1 lsp L (n+8) 8 [.agg [.int .i64 pa, .sl q 2 es, .int .i64 cu, .int .i64 cl, .int .i64 pe], .int .i64 t, .int .i64 c] =
    (cond (decide (↑es.length > (20 : Int)))
     (some (.bool true))
     (need (isS.D [DV.agg (List.take (5 : Nat) (List.drop (0 : Nat) [DV.int IntKind.i64 pa, DV.sl q (2 : Nat) es, DV.int IntKind.i64 cu, DV.int IntKind.i64 cl, DV.int IntKind.i64 pe]))])
      (cond (bif bif !isR pa (rows (DV.sl q (2 : Nat) es)) cu cl pe then true else decide (t < (0 : Int)) then true else decide (t > (1099511627776 : Int)))
       (some (.bool true))
       (cond (bif decide (IntKind.i64.wrap (cl + t) ≥ cl) then true else bif c == (3 : Int) then decide (IntKind.i64.wrap (cl + t) ≥ cu) else false)
        (cond (bif decide (IntKind.i64.wrap (cl + t) > (0 : Int)) then decide (IntKind.i64.wrap (cl + t) < cl) else false)
         (cond (decide (pe = (0 : Int)))
          none
          (cond (bif !(IntKind.i64.wrap (cl + t)).tmod pe == (0 : Int) then (IntKind.i64.wrap (cl + t) == cl) == (t == (0 : Int)) else false)
           (need (trueS.D [])
            (some (.bool true))
           )
           (some (.bool false))
          )
         )
         (cond (bif !false then (IntKind.i64.wrap (cl + t) == cl) == (t == (0 : Int)) else false)
          (need (trueS.D [])
           (some (.bool true))
          )
          (some (.bool false))
         )
        )
        (some (.bool false))
       )
      )
     )
    ) := by kernel_rfl
theorem tN (L n : Nat) (pa cu cl pe t c : Int) : FK tab sp1 lsp L (n+8) 8 [.agg [.int .i64 pa, .nilsl, .int .i64 cu, .int .i64 cl, .int .i64 pe], .int .i64 t, .int .i64 c] =
    (need (isS.D [DV.agg (List.take (5 : Nat) (List.drop (0 : Nat) [DV.int IntKind.i64 pa, DV.nilsl, DV.int IntKind.i64 cu, DV.int IntKind.i64 cl, DV.int IntKind.i64 pe]))])
     (cond (bif bif !isR pa (rows DV.nilsl) cu cl pe then true else decide (t < (0 : Int)) then true else decide (t > (1099511627776 : Int)))
      (some (.bool true))
      (cond (bif decide (IntKind.i64.wrap (cl + t) ≥ cl) then true else bif c == (3 : Int) then decide (IntKind.i64.wrap (cl + t) ≥ cu) else false)
       (cond (bif decide (IntKind.i64.wrap (cl + t) > (0 : Int)) then decide (IntKind.i64.wrap (cl + t) < cl) else false)
        (cond (decide (pe = (0 : Int)))
         none
         (cond (bif !(IntKind.i64.wrap (cl + t)).tmod pe == (0 : Int) then (IntKind.i64.wrap (cl + t) == cl) == (t == (0 : Int)) else false)
          (need (trueS.D [])
           (some (.bool true))
          )
          (some (.bool false))
         )
        )
        (cond (bif !false then (IntKind.i64.wrap (cl + t) == cl) == (t == (0 : Int)) else false)
         (need (trueS.D [])
          (some (.bool true))
         )
         (some (.bool false))
        )
       )
       (some (.bool false))
      )
     )
    ) := by kernel_rfl
theorem runsS (xs : List DV) (h : KVs kinds xs) : ∃ call, CallOk Try.prog call ∧ call 8 xs = some (.bool true) := by
  simp only [kinds, KVs, KV, KC, KCs] at h
  obtain ⟨x, xs', rfl, ⟨ps, rfl, _, _, rfl, ⟨pa, rfl, _⟩, _, _, rfl, hs, _, _, rfl, ⟨cu, rfl, _⟩, _, _, rfl, ⟨cl, rfl, _⟩, _, _, rfl, ⟨pe, rfl, _⟩, rfl⟩, x2, xs2, rfl, ⟨t, hx2, w1⟩, x3, xs3, rfl, ⟨c, hx3, w2⟩, rfl⟩ := h
  cases hx2
  cases hx3
  have needT : ∀ a, need (trueS.D []) a = a := fun a => need_pos rfl
  rcases hs with rfl | ⟨es, rfl, hes⟩
  · have hD : isS.D [.agg [.int .i64 pa, .nilsl, .int .i64 cu, .int .i64 cl, .int .i64 pe]] := ⟨pa, .nilsl, cu, cl, pe, rfl, .inl rfl⟩
    refine of_FK tab_ok sp1_ok (L := 100) (n := 0 + 8) ((tN 100 0 pa cu cl pe t c).trans ?_)
    refine (need_pos hD).trans ?_
    simp only [needT]
    generalize hR : isR pa (rows .nilsl) cu cl pe = R
    have hR' : R = true → 1 ≤ cl ∧ cl ≤ 1048576 ∧ 0 ≤ cu ∧ cu ≤ cl ∧ 1 ≤ pe := fun h => by
      rw [h] at hR
      simp only [isR, Bool.and_eq_true, decide_eq_true_eq] at hR
      omega
    clear hD hR
    refine cond_of (fun h => rfl) (fun h => ?_)
    have hh : R = true ∧ 0 ≤ t ∧ t ≤ 1099511627776 := by
      clear hR'
      cases R with
      | false => simp at h
      | true =>
        simp at h
        exact ⟨rfl, by omega, by omega⟩
    obtain ⟨rfl, h1, h2⟩ := hh
    obtain ⟨g1, g2, g3, g4, g5⟩ := hR' rfl
    clear h hR'
    have hw : IntKind.i64.wrap (cl + t) = cl + t := wrap_fits (by omega) (by omega)
    simp only [hw]
    clear hw
    obtain ⟨u, hu⟩ : ∃ u, u = cl + t := ⟨_, rfl⟩
    rw [← hu]
    have he : (u == cl) = (t == 0) := by
      rw [Bool.eq_iff_iff]
      simp
      omega
    simp only [he, beq_self_eq_true]
    repeat' (first | rfl | (refine cond_of (fun h => ?_) (fun h => ?_)))
    all_goals first
      | rfl
      | (exfalso; simp at *; omega)
      | (exfalso; simp_all; done)
      | (exfalso; simp_all; omega)
  · refine of_FK tab_ok sp1_ok (L := 100) (n := 0 + 8) ((tA 100 0 pa cu cl pe t c .ro es).trans ?_)
    refine cond_of (fun _ => rfl) (fun hl => ?_)
    have hD : isS.D [.agg [.int .i64 pa, .sl .ro 2 es, .int .i64 cu, .int .i64 cl, .int .i64 pe]] := ⟨pa, .sl .ro 2 es, cu, cl, pe, rfl, .inr ⟨.ro, es, rfl, fun e he => by
        obtain ⟨_, _, rfl, ⟨a, rfl, _⟩, _, _, rfl, ⟨b, rfl, _⟩, rfl⟩ := hes e he
        rfl, by simp at hl; omega⟩⟩
    refine (need_pos hD).trans ?_
    simp only [needT]
    generalize hR : isR pa (rows (.sl .ro 2 es)) cu cl pe = R
    have hR' : R = true → 1 ≤ cl ∧ cl ≤ 1048576 ∧ 0 ≤ cu ∧ cu ≤ cl ∧ 1 ≤ pe := fun h => by
      rw [h] at hR
      simp only [isR, Bool.and_eq_true, decide_eq_true_eq] at hR
      omega
    clear hD hR hes hl
    refine cond_of (fun h => rfl) (fun h => ?_)
    have hh : R = true ∧ 0 ≤ t ∧ t ≤ 1099511627776 := by
      clear hR'
      cases R with
      | false => simp at h
      | true =>
        simp at h
        exact ⟨rfl, by omega, by omega⟩
    obtain ⟨rfl, h1, h2⟩ := hh
    obtain ⟨g1, g2, g3, g4, g5⟩ := hR' rfl
    clear h hR'
    have hw : IntKind.i64.wrap (cl + t) = cl + t := wrap_fits (by omega) (by omega)
    simp only [hw]
    clear hw
    obtain ⟨u, hu⟩ : ∃ u, u = cl + t := ⟨_, rfl⟩
    rw [← hu]
    have he : (u == cl) = (t == 0) := by
      rw [Bool.eq_iff_iff]
      simp
      omega
    simp only [he, beq_self_eq_true]
    repeat' (first | rfl | (refine cond_of (fun h => ?_) (fun h => ?_)))
    all_goals first
      | rfl
      | (exfalso; simp at *; omega)
      | (exfalso; simp_all; done)
      | (exfalso; simp_all; omega)

set_option maxRecDepth 100000 in
theorem lifted (os : Os) (started : os.Started) (H : Type) (enc : TypeId × Value → H) :
    ReturnsInHanded {} Try.checked os 8 .any (Rows.dayOverSpec.pre6 enc Try.prog Try.f8 Rows.dayOverRow.domain false) (Rows.dayOverSpec.post enc Try.prog Try.f8 false true false false) := by
  refine returnsInHanded_of_change (C := Try.checked) own started (by kernel_rfl) Try.func8
    (ChangeSpec.witness6 (enc := enc) (C := Try.checked) false ⟨#[], #[.agg #[.int .i64 0, .slice none 0 0, .int .i64 0, .int .i64 0, .int .i64 0], .int .i64 0, .int .i64 0], []⟩ 8 (by kernel_rfl) (by kernel_rfl) (by kernel_rfl) (by kernel_rfl)) ?_
  intro W base args ds gs before hval0 hW hcnd _
  exact law_contract (H := H) (enc := enc) (s := Rows.dayOverSpec) (fn := Try.f8) (by kernel_rfl) rfl (n := 8) (Ks := kinds) (by kernel_rfl) (by kernel_rfl) (rt := 4) (by kernel_rfl) (by kernel_rfl)
    (fun ds h => by
      have h' : ds.length = 3 := h
      obtain ⟨d0, d1, d2, rfl⟩ := len3 h'
      exact ⟨rfl, rfl, rfl⟩) runsS W base args ds gs before hval0 hW

theorem over : Rows.dayOverRow.holds Try.pinned (OpenSpec.ofChange Rows.dayOverSpec) :=
  OpenClaim.holds_of_wide 8 Try.f8 rfl rfl rfl rfl rfl rfl rfl ⟨rfl, rfl, rfl, rfl, rfl⟩ rfl rfl rfl rfl rfl (by kernel_rfl) Try.func8 (by kernel_rfl)
    (of_decide_eq_true (by kernel_rfl)) (by unfold Func.isWrapper; first | (rw [if_pos (by decide +kernel)]; kernel_rfl) | (rw [if_neg (by decide +kernel)]; exact ⟨rfl, rfl⟩))
    (fun os started H enc _ => lifted os started H enc)

/-- ████ THE STATEMENT ████ -/
theorem proved : Rows.DayOverSaid :=
  over
#print axioms proved
end Go.Proofs.Ytgckkedngcplmaa.dayOver
