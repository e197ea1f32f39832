/- The statement 'Rows.AcctRoomSaid': its function is run by the pure machine on data of its parameters' kinds; it gives true. No condition. -/
import Derived.Test.YtakapalpcglfaaaRows
import Derived.Test.YtakapalpcglfaaaSa
import Derived.WalkKit
import Derived.ProofKit
import Derived.OpenShut
import Derived.ShutString
namespace Go.Proofs.Ytakapalpcglfaaa.acctRoom
open Go Go.Proofs Go.ChangeShapes Go.WideShapes Go.ChangeAt Go.RowKit Vm
set_option linter.unusedVariables false
set_option linter.unusedSimpArgs false

theorem own : ownKnob Try.prog.godebug = none := by kernel_rfl

def kinds : List Kd := [.struct [.int .i64, .int .i64, .int .i64], .int .i64]
theorem l3 (L n : Nat) (a b c m : Int) : FK tab sp1 lsp0 L (n+8) 3 [.agg [.int .i64 a, .int .i64 b, .int .i64 c], .int .i64 m] =
    (cond (bif bif !bif bif bif bif bif decide (a > (-4611686018427387904 : Int)) then decide (a < (4611686018427387904 : Int)) else false then decide (b ≥ (0 : Int)) else false then decide (b ≤ (2305843009213693952 : Int)) else false then decide (c ≥ (0 : Int)) else false then decide (c ≤ (2305843009213693952 : Int)) else false then true else decide (m < (1 : Int)) then true else decide (m > (1099511627776 : Int)))
     (some (.bool true))
     (need (roomS.D [DV.agg [DV.int IntKind.i64 a, DV.int IntKind.i64 b, DV.int IntKind.i64 c], DV.int IntKind.i64 (3 : Int)])
      (need (roomS.D [DV.agg [DV.int IntKind.i64 a, DV.int IntKind.i64 b, DV.int IntKind.i64 c], DV.int IntKind.i64 (1 : Int)])
       (cond (IntKind.i64.wrap (roomI a b c (1 : Int) - roomI a b c (3 : Int)) != c)
        (some (.bool false))
        (need (roomS.D [DV.agg (List.take (3 : Nat) (List.drop (0 : Nat) [DV.int IntKind.i64 a, DV.int IntKind.i64 b, DV.int IntKind.i64 c])), DV.int IntKind.i64 (2 : Int)])
         (cond (roomI a b c (2 : Int) != roomI a b c (1 : Int))
          (some (.bool false))
          (need (outS.D [DV.agg [DV.int IntKind.i64 a, DV.int IntKind.i64 b, DV.int IntKind.i64 c], DV.int IntKind.i64 m, DV.int IntKind.i64 (3 : Int)])
           (cond ((bif outOk a m then (0 : Int) else (8 : Int)) != (0 : Int))
            (some (.bool true))
            (need (roomS.D [DV.agg (List.take (3 : Nat) (List.drop (0 : Nat) (splice [DV.int IntKind.i64 (0 : Int), DV.int IntKind.i64 (0 : Int), DV.int IntKind.i64 (0 : Int)] (0 : Nat) [DV.int IntKind.i64 (bif outOk a m then a - m else a), DV.int IntKind.i64 b, DV.int IntKind.i64 (bif outOk a m && ((3 : Int) == (1 : Int) || (3 : Int) == (2 : Int)) then keptI c m else c)]))), DV.int IntKind.i64 (3 : Int)])
             (cond (roomI (bif outOk a m then a - m else a) b (bif outOk a m && ((3 : Int) == (1 : Int) || (3 : Int) == (2 : Int)) then keptI c m else c) (3 : Int) == IntKind.i64.wrap (roomI a b c (3 : Int) - m))
              (need (roomS.D [DV.agg (List.take (3 : Nat) (List.drop (0 : Nat) (splice [DV.int IntKind.i64 (0 : Int), DV.int IntKind.i64 (0 : Int), DV.int IntKind.i64 (0 : Int)] (0 : Nat) [DV.int IntKind.i64 (bif outOk a m then a - m else a), DV.int IntKind.i64 b, DV.int IntKind.i64 (bif outOk a m && ((3 : Int) == (1 : Int) || (3 : Int) == (2 : Int)) then keptI c m else c)]))), DV.int IntKind.i64 (1 : Int)])
               (cond (roomI (bif outOk a m then a - m else a) b (bif outOk a m && ((3 : Int) == (1 : Int) || (3 : Int) == (2 : Int)) then keptI c m else c) (1 : Int) == IntKind.i64.wrap (roomI a b c (1 : Int) - m))
                (need (trueS.D [])
                 (some (.bool true))
                )
                (some (.bool false))
               )
              )
              (some (.bool false))
             )
            )
           )
          )
         )
        )
       )
      )
     )
    ) := by kernel_rfl
theorem runsS (xs : List DV) (h : KVs kinds xs) : ∃ call, CallOk Try.prog call ∧ call 3 xs = some (.bool true) := by
  simp only [kinds, KVs, KV, KC, KCs] at h
  obtain ⟨x, xs', rfl, ⟨ps, rfl, _, _, rfl, ⟨a, rfl, _⟩, _, _, rfl, ⟨b, rfl, _⟩, _, _, rfl, ⟨c, rfl, _⟩, rfl⟩, x2, xs2, rfl, ⟨m, hx2, w1⟩, rfl⟩ := h
  cases hx2
  refine of_FK tab_ok sp1_ok (L := 100) (n := 0 + 8) ((l3 100 0 a b c m).trans ?_)
  refine cond_of (fun _ => rfl) (fun h => ?_)
  change (bif bif !isB a b c then true else decide (m < 1) then true else decide (m > 1099511627776)) = false at h
  have hb : isB a b c = true := by cases hb : isB a b c <;> simp [hb] at h ⊢
  have hA := isB_iff.1 hb
  have hm : 1 ≤ m ∧ m ≤ 1099511627776 := by
    rw [hb] at h
    simp at h
    omega
  clear h hb
  obtain ⟨h1, h2, h3, h4, h5, h6⟩ := id hA
  refine (need_pos ⟨a, b, c, 3, rfl, hA⟩).trans ((need_pos ⟨a, b, c, 1, rfl, hA⟩).trans ?_)
  rw [show roomI a b c 1 = a + b from rfl, show roomI a b c 3 = a + b - c from rfl, show roomI a b c 2 = a + b from rfl]
  rw [show IntKind.i64.wrap (a + b - (a + b - c)) = c by rw [wrap_fits] <;> omega, bne_self_eq_false, cond_false]
  refine (need_pos ⟨a, b, c, 2, rfl, hA⟩).trans ?_
  rw [bne_self_eq_false, cond_false]
  refine (need_pos ⟨a, b, c, m, 3, rfl, hA, by omega, by omega, by omega⟩).trans ?_
  by_cases ho : -4611686018427387904 < a - m
  · rw [show outOk a m = true from decide_eq_true ho]
    have hA2 : isA (a - m) b c := ⟨by omega, by omega, h3, h4, h5, h6⟩
    refine (need_pos ⟨a - m, b, c, 3, rfl, hA2⟩).trans ?_
    rw [show roomI (bif true then a - m else a) b (bif true && ((3 : Int) == 1 || (3 : Int) == 2) then keptI c m else c) 3 = a - m + b - c from rfl, show roomI (bif true then a - m else a) b (bif true && ((3 : Int) == 1 || (3 : Int) == 2) then keptI c m else c) 1 = a - m + b from rfl]
    rw [show IntKind.i64.wrap (a + b - c - m) = a - m + b - c by rw [wrap_fits] <;> omega, show IntKind.i64.wrap (a + b - m) = a - m + b by rw [wrap_fits] <;> omega, beq_self_eq_true, beq_self_eq_true]
    refine (need_pos ⟨a - m, b, c, 1, rfl, hA2⟩).trans ?_
    exact need_pos rfl
  · rw [show outOk a m = false from decide_eq_false ho]
    rfl

set_option maxRecDepth 100000 in
theorem lifted (os : Os) (started : os.Started) (H : Type) (enc : TypeId × Value → H) :
    ReturnsInHanded {} Try.checked os 3 .any (Rows.acctRoomSpec.pre6 enc Try.prog Try.f3 Rows.acctRoomRow.domain false) (Rows.acctRoomSpec.post enc Try.prog Try.f3 false true false false) := by
  refine returnsInHanded_of_change (C := Try.checked) own started (by kernel_rfl) Try.func3
    (ChangeSpec.witness6 (enc := enc) (C := Try.checked) false ⟨#[], #[.agg #[.int .i64 0, .int .i64 0, .int .i64 0], .int .i64 0], []⟩ 8 (by kernel_rfl) (by kernel_rfl) (by kernel_rfl) (by kernel_rfl)) ?_
  intro W base args ds gs before hval0 hW hcnd _
  exact law_contract (H := H) (enc := enc) (s := Rows.acctRoomSpec) (fn := Try.f3) (by kernel_rfl) rfl (n := 8) (Ks := kinds) (by kernel_rfl) (by kernel_rfl) (rt := 4) (by kernel_rfl) (by kernel_rfl)
    (fun ds h => by
      have h' : ds.length = 2 := h
      obtain ⟨d0, d1, rfl⟩ := len2 h'
      exact ⟨rfl, rfl, rfl⟩) runsS W base args ds gs before hval0 hW

theorem over : Rows.acctRoomRow.holds Try.pinned (OpenSpec.ofChange Rows.acctRoomSpec) :=
  OpenClaim.holds_of_wide 3 Try.f3 rfl rfl rfl rfl rfl rfl rfl ⟨rfl, rfl, rfl, rfl, rfl⟩ rfl rfl rfl rfl rfl (by kernel_rfl) Try.func3 (by kernel_rfl)
    (of_decide_eq_true (by kernel_rfl)) (by unfold Func.isWrapper; first | (rw [if_pos (by decide +kernel)]; kernel_rfl) | (rw [if_neg (by decide +kernel)]; exact ⟨rfl, rfl⟩))
    (fun os started H enc _ => lifted os started H enc)

/-- ████ THE STATEMENT ████ -/
theorem proved : Rows.AcctRoomSaid :=
  over
#print axioms proved
end Go.Proofs.Ytakapalpcglfaaa.acctRoom
