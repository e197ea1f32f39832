/- The statement 'Rows.DayIsSaid': its function is run by the pure machine on data of its parameters' kinds; it gives true. No condition. -/
import Derived.Test.YtgckkedngcplmaaRows
import Derived.Test.YtgckkedngcplmaaSa
import Derived.WalkKit
import Derived.ProofKit
import Derived.OpenShut
import Derived.ShutString
namespace Go.Proofs.Ytgckkedngcplmaa.dayIs
open Go Go.Proofs Go.ChangeShapes Go.WideShapes Go.ChangeAt Go.RowKit Vm
set_option linter.unusedVariables false

theorem own : ownKnob Try.prog.godebug = none := by kernel_rfl

def kinds : List Kd := [.struct [.int .i64, .slice (.struct [.int .i64, .int .i64]), .int .i64, .int .i64, .int .i64]]
theorem t6 (L n : Nat) (pa cu cl pe : Int) (q : SK) (es : List (List DV)) : FK tab sp1 lsp L (n+8) 6 [.agg [.int .i64 pa, .sl q 2 es, .int .i64 cu, .int .i64 cl, .int .i64 pe]] =
    (cond (decide (↑es.length > (20 : Int)))
     (some (.bool true))
     (need (isS.D [DV.agg (List.take (5 : Nat) (List.drop (0 : Nat) [DV.int IntKind.i64 pa, DV.sl q (2 : Nat) es, DV.int IntKind.i64 cu, DV.int IntKind.i64 cl, DV.int IntKind.i64 pe]))])
      (need (isS.D [DV.agg (List.take (5 : Nat) (List.drop (0 : Nat) [DV.int IntKind.i64 pa, DV.sl q (2 : Nat) es, DV.int IntKind.i64 cu, DV.int IntKind.i64 cl, DV.int IntKind.i64 pe]))])
       (cond (isR pa (rows (DV.sl q (2 : Nat) es)) cu cl pe == isR pa (rows (DV.sl q (2 : Nat) es)) cu cl pe)
        (need (trueS.D [])
         (some (.bool true))
        )
        (some (.bool false))
       )
      )
     )
    ) := by kernel_rfl
theorem t6n (L n : Nat) (pa cu cl pe : Int) : FK tab sp1 lsp L (n+8) 6 [.agg [.int .i64 pa, .nilsl, .int .i64 cu, .int .i64 cl, .int .i64 pe]] =
    (need (isS.D [DV.agg (List.take (5 : Nat) (List.drop (0 : Nat) [DV.int IntKind.i64 pa, DV.nilsl, DV.int IntKind.i64 cu, DV.int IntKind.i64 cl, DV.int IntKind.i64 pe]))])
     (need (isS.D [DV.agg (List.take (5 : Nat) (List.drop (0 : Nat) [DV.int IntKind.i64 pa, DV.nilsl, DV.int IntKind.i64 cu, DV.int IntKind.i64 cl, DV.int IntKind.i64 pe]))])
      (cond (isR pa (rows DV.nilsl) cu cl pe == isR pa (rows DV.nilsl) cu cl pe)
       (need (trueS.D [])
        (some (.bool true))
       )
       (some (.bool false))
      )
     )
    ) := by kernel_rfl
theorem runsS (xs : List DV) (h : KVs kinds xs) : ∃ call, CallOk Try.prog call ∧ call 6 xs = some (.bool true) := by
  simp only [kinds, KVs, KV, KC, KCs] at h
  obtain ⟨x, xs', rfl, ⟨ps, rfl, _, _, rfl, ⟨pa, rfl, _⟩, _, _, rfl, hs, _, _, rfl, ⟨cu, rfl, _⟩, _, _, rfl, ⟨cl, rfl, _⟩, _, _, rfl, ⟨pe, rfl, _⟩, rfl⟩, rfl⟩ := h
  rcases hs with rfl | ⟨es, rfl, hes⟩
  · have hD : isS.D [.agg [.int .i64 pa, .nilsl, .int .i64 cu, .int .i64 cl, .int .i64 pe]] := ⟨pa, .nilsl, cu, cl, pe, rfl, .inl rfl⟩
    refine of_FK tab_ok sp1_ok (L := 100) (n := 0 + 8) ((t6n 100 0 pa cu cl pe).trans ?_)
    refine (need_pos hD).trans ((need_pos hD).trans ?_)
    rw [beq_self_eq_true, need_pos (show trueS.D [] from rfl)]
    rfl
  · refine of_FK tab_ok sp1_ok (L := 100) (n := 0 + 8) ((t6 100 0 pa cu cl pe .ro es).trans ?_)
    by_cases hl : (es.length : Int) > 20
    · rw [decide_eq_true hl]; rfl
    · rw [decide_eq_false hl]
      have hD : isS.D [.agg [.int .i64 pa, .sl .ro 2 es, .int .i64 cu, .int .i64 cl, .int .i64 pe]] := ⟨pa, .sl .ro 2 es, cu, cl, pe, rfl, .inr ⟨.ro, es, rfl, fun e he => by
        obtain ⟨_, _, rfl, ⟨a, rfl, _⟩, _, _, rfl, ⟨b, rfl, _⟩, rfl⟩ := hes e he
        rfl, by omega⟩⟩
      refine (need_pos hD).trans ((need_pos hD).trans ?_)
      rw [beq_self_eq_true, need_pos (show trueS.D [] from rfl)]
      rfl

set_option maxRecDepth 100000 in
theorem lifted (os : Os) (started : os.Started) (H : Type) (enc : TypeId × Value → H) :
    ReturnsInHanded {} Try.checked os 6 .any (Rows.dayIsSpec.pre6 enc Try.prog Try.f6 Rows.dayIsRow.domain false) (Rows.dayIsSpec.post enc Try.prog Try.f6 false true false false) := by
  refine returnsInHanded_of_change (C := Try.checked) own started (by kernel_rfl) Try.func6
    (ChangeSpec.witness6 (enc := enc) (C := Try.checked) false ⟨#[], #[.agg #[.int .i64 0, .slice none 0 0, .int .i64 0, .int .i64 0, .int .i64 0]], []⟩ 8 (by kernel_rfl) (by kernel_rfl) (by kernel_rfl) (by kernel_rfl)) ?_
  intro W base args ds gs before hval0 hW hcnd _
  exact law_contract (H := H) (enc := enc) (s := Rows.dayIsSpec) (fn := Try.f6) (by kernel_rfl) rfl (n := 8) (Ks := kinds) (by kernel_rfl) (by kernel_rfl) (rt := 4) (by kernel_rfl) (by kernel_rfl)
    (fun ds h => by
      have h' : ds.length = 1 := h
      obtain ⟨d0, rfl⟩ := len1 h'
      exact ⟨rfl, rfl, rfl⟩) runsS W base args ds gs before hval0 hW

theorem over : Rows.dayIsRow.holds Try.pinned (OpenSpec.ofChange Rows.dayIsSpec) :=
  OpenClaim.holds_of_wide 6 Try.f6 rfl rfl rfl rfl rfl rfl rfl ⟨rfl, rfl, rfl, rfl, rfl⟩ rfl rfl rfl rfl rfl (by kernel_rfl) Try.func6 (by kernel_rfl)
    (of_decide_eq_true (by kernel_rfl)) (by unfold Func.isWrapper; first | (rw [if_pos (by decide +kernel)]; kernel_rfl) | (rw [if_neg (by decide +kernel)]; exact ⟨rfl, rfl⟩))
    (fun os started H enc _ => lifted os started H enc)

/-- ████ THE STATEMENT ████ -/
theorem proved : Rows.DayIsSaid :=
  over
#print axioms proved
end Go.Proofs.Ytgckkedngcplmaa.dayIs
