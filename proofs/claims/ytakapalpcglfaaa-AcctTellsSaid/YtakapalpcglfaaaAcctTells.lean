/- The statement 'Rows.AcctTellsSaid': its function is run by the pure machine on data of its parameters' kinds; it gives true. No condition. -/
import Derived.Test.YtakapalpcglfaaaRows
import Derived.Test.YtakapalpcglfaaaSa
import Derived.WalkKit
import Derived.ProofKit
import Derived.OpenShut
import Derived.ShutString
namespace Go.Proofs.Ytakapalpcglfaaa.acctTells
open Go Go.Proofs Go.ChangeShapes Go.WideShapes Go.ChangeAt Go.RowKit Vm
set_option linter.unusedVariables false
set_option linter.unusedSimpArgs false

theorem own : ownKnob Try.prog.godebug = none := by kernel_rfl

noncomputable def sp2 : FuncId → Option FSpec := spAdd 13 trueS (spAdd 11 roomS (spAdd 18 roomS (spAdd 20 keptS (spAdd 15 inS (spAdd 16 inS (spAdd 12 outS (spAdd 17 outS noSp)))))))
theorem sp2_ok : ∀ f s, sp2 f = some s → s.ok Try.prog f := spAdd_ok known9 (spAdd_ok room11 (spAdd_ok room18 (spAdd_ok kept20 (spAdd_ok in15 (spAdd_ok in16 (spAdd_ok out12 (spAdd_ok out17 noSp_ok)))))))
def kinds : List Kd := [.struct [.int .i64, .int .i64, .int .i64], .int .i64, .int .i64]
theorem l4 (L n : Nat) (a b c m k : Int) : FK tab sp2 lsp0 L (n+8) 4 [.agg [.int .i64 a, .int .i64 b, .int .i64 c], .int .i64 m, .int .i64 k] =
    (cond (bif bif bif bif !(bif bif bif bif bif decide (a > (-4611686018427387904 : Int)) then decide (a < (4611686018427387904 : Int)) else false then decide (b ≥ (0 : Int)) else false then decide (b ≤ (2305843009213693952 : Int)) else false then decide (c ≥ (0 : Int)) else false then decide (c ≤ (2305843009213693952 : Int)) else false) == bif bif bif bif bif decide (a > (-4611686018427387904 : Int)) then decide (a < (4611686018427387904 : Int)) else false then decide (b ≥ (0 : Int)) else false then decide (b ≤ (2305843009213693952 : Int)) else false then decide (c ≥ (0 : Int)) else false then decide (c ≤ (2305843009213693952 : Int)) else false then true else !bif bif bif bif bif decide (a > (-4611686018427387904 : Int)) then decide (a < (4611686018427387904 : Int)) else false then decide (b ≥ (0 : Int)) else false then decide (b ≤ (2305843009213693952 : Int)) else false then decide (c ≥ (0 : Int)) else false then decide (c ≤ (2305843009213693952 : Int)) else false then true else decide (m < (0 : Int)) then true else decide (k < (1 : Int)) then true else decide (k > (3 : Int)))
     (cond ((bif bif bif bif bif decide (a > (-4611686018427387904 : Int)) then decide (a < (4611686018427387904 : Int)) else false then decide (b ≥ (0 : Int)) else false then decide (b ≤ (2305843009213693952 : Int)) else false then decide (c ≥ (0 : Int)) else false then decide (c ≤ (2305843009213693952 : Int)) else false) == bif bif bif bif bif decide (a > (-4611686018427387904 : Int)) then decide (a < (4611686018427387904 : Int)) else false then decide (b ≥ (0 : Int)) else false then decide (b ≤ (2305843009213693952 : Int)) else false then decide (c ≥ (0 : Int)) else false then decide (c ≤ (2305843009213693952 : Int)) else false)
      (need (trueS.D [])
       (some (.bool true))
      )
      (some (.bool false))
     )
     (need (inS.D [DV.agg [DV.int IntKind.i64 a, DV.int IntKind.i64 b, DV.int IntKind.i64 c], DV.int IntKind.i64 m])
      (need (inS.D [DV.agg [DV.int IntKind.i64 a, DV.int IntKind.i64 b, DV.int IntKind.i64 c], DV.int IntKind.i64 m])
       (need (outS.D [DV.agg [DV.int IntKind.i64 a, DV.int IntKind.i64 b, DV.int IntKind.i64 c], DV.int IntKind.i64 m, DV.int IntKind.i64 k])
        (need (outS.D [DV.agg [DV.int IntKind.i64 a, DV.int IntKind.i64 b, DV.int IntKind.i64 c], DV.int IntKind.i64 m, DV.int IntKind.i64 k])
         (need (roomS.D [DV.agg [DV.int IntKind.i64 a, DV.int IntKind.i64 b, DV.int IntKind.i64 c], DV.int IntKind.i64 k])
          (need (roomS.D [DV.agg [DV.int IntKind.i64 a, DV.int IntKind.i64 b, DV.int IntKind.i64 c], DV.int IntKind.i64 k])
           (cond (roomI a b c k == roomI a b c k)
            (need (keptS.D [DV.agg (List.take (3 : Nat) (List.drop (0 : Nat) [DV.int IntKind.i64 a, DV.int IntKind.i64 b, DV.int IntKind.i64 c])), DV.int IntKind.i64 m])
             (cond (bif bif bif bif (if (0 : Int) > IntKind.i64.wrap (c - m) then (0 : Int) else IntKind.i64.wrap (c - m)) == keptI c m then ((bif inOk a m then a + m else a) == bif inOk a m then a + m else a) && (b == b && (c == c && true)) else false then (bif inOk a m then (0 : Int) else (8 : Int)) == bif inOk a m then (0 : Int) else (8 : Int) else false then ((bif outOk a m then a - m else a) == bif outOk a m then a - m else a) && (b == b && (((bif outOk a m && (k == (1 : Int) || k == (2 : Int)) then keptI c m else c) == bif outOk a m && (k == (1 : Int) || k == (2 : Int)) then keptI c m else c) && true)) else false then (bif outOk a m then (0 : Int) else (8 : Int)) == bif outOk a m then (0 : Int) else (8 : Int) else false)
              (need (trueS.D [])
               (some (.bool true))
              )
              (some (.bool false))
             )
            )
            (some (.bool false))
           )
          )
         )
        )
       )
      )
     )
    ) := by kernel_rfl
theorem runsS (xs : List DV) (h : KVs kinds xs) : ∃ call, CallOk Try.prog call ∧ call 4 xs = some (.bool true) := by
  simp only [kinds, KVs, KV, KC, KCs] at h
  obtain ⟨x, xs', rfl, ⟨ps, rfl, _, _, rfl, ⟨a, rfl, _⟩, _, _, rfl, ⟨b, rfl, _⟩, _, _, rfl, ⟨c, rfl, _⟩, rfl⟩, x2, xs2, rfl, ⟨m, hx2, w1⟩, x3, xs3, rfl, ⟨k, hx3, w2⟩, rfl⟩ := h
  cases hx2
  cases hx3
  refine of_FK tab_ok sp2_ok (L := 100) (n := 0 + 8) ((l4 100 0 a b c m k).trans ?_)
  change cond (bif bif bif bif !(isB a b c == isB a b c) then true else !isB a b c then true else decide (m < 0) then true else decide (k < 1) then true else decide (k > 3)) (cond (isB a b c == isB a b c) _ _) _ = _
  rw [beq_self_eq_true, Bool.not_true, cond_false]
  refine cond_of (fun _ => need_pos rfl) (fun h => ?_)
  have hb : isB a b c = true := by cases hb : isB a b c <;> simp [hb] at h ⊢
  have hA := isB_iff.1 hb
  have hm : 0 ≤ m ∧ 1 ≤ k ∧ k ≤ 3 := by
    rw [hb] at h
    simp at h
    omega
  have w64 := wf_i64 w1
  clear h hb w1 w2
  obtain ⟨h1, h2, h3, h4, h5, h6⟩ := id hA
  have hI : inS.D [.agg [.int .i64 a, .int .i64 b, .int .i64 c], .int .i64 m] := ⟨a, b, c, m, rfl, hA, by omega, w64⟩
  have hO : outS.D [.agg [.int .i64 a, .int .i64 b, .int .i64 c], .int .i64 m, .int .i64 k] := ⟨a, b, c, m, k, rfl, hA, by omega, w64⟩
  have hR : roomS.D [.agg [.int .i64 a, .int .i64 b, .int .i64 c], .int .i64 k] := ⟨a, b, c, k, rfl, hA⟩
  have hK : keptS.D [.agg [.int .i64 a, .int .i64 b, .int .i64 c], .int .i64 m] := ⟨a, b, c, m, rfl, hA, by omega, w64⟩
  rw [need_pos hI, need_pos hI, need_pos hO, need_pos hO, need_pos hR, need_pos hR, beq_self_eq_true, cond_true]
  refine (need_pos hK).trans ?_
  obtain ⟨g1, g2⟩ := w64
  rw [show IntKind.i64.wrap (c - m) = c - m by rw [wrap_fits] <;> omega, max_kept]
  simp only [beq_self_eq_true, Bool.and_self, cond_true]
  exact need_pos rfl

set_option maxRecDepth 100000 in
theorem lifted (os : Os) (started : os.Started) (H : Type) (enc : TypeId × Value → H) :
    ReturnsInHanded {} Try.checked os 4 .any (Rows.acctTellsSpec.pre6 enc Try.prog Try.f4 Rows.acctTellsRow.domain false) (Rows.acctTellsSpec.post enc Try.prog Try.f4 false true false false) := by
  refine returnsInHanded_of_change (C := Try.checked) own started (by kernel_rfl) Try.func4
    (ChangeSpec.witness6 (enc := enc) (C := Try.checked) false ⟨#[], #[.agg #[.int .i64 0, .int .i64 0, .int .i64 0], .int .i64 0, .int .i64 0], []⟩ 8 (by kernel_rfl) (by kernel_rfl) (by kernel_rfl) (by kernel_rfl)) ?_
  intro W base args ds gs before hval0 hW hcnd _
  exact law_contract (H := H) (enc := enc) (s := Rows.acctTellsSpec) (fn := Try.f4) (by kernel_rfl) rfl (n := 8) (Ks := kinds) (by kernel_rfl) (by kernel_rfl) (rt := 4) (by kernel_rfl) (by kernel_rfl)
    (fun ds h => by
      have h' : ds.length = 3 := h
      obtain ⟨d0, d1, d2, rfl⟩ := len3 h'
      exact ⟨rfl, rfl, rfl⟩) runsS W base args ds gs before hval0 hW

theorem over : Rows.acctTellsRow.holds Try.pinned (OpenSpec.ofChange Rows.acctTellsSpec) :=
  OpenClaim.holds_of_wide 4 Try.f4 rfl rfl rfl rfl rfl rfl rfl ⟨rfl, rfl, rfl, rfl, rfl⟩ rfl rfl rfl rfl rfl (by kernel_rfl) Try.func4 (by kernel_rfl)
    (of_decide_eq_true (by kernel_rfl)) (by unfold Func.isWrapper; first | (rw [if_pos (by decide +kernel)]; kernel_rfl) | (rw [if_neg (by decide +kernel)]; exact ⟨rfl, rfl⟩))
    (fun os started H enc _ => lifted os started H enc)

/-- ████ THE STATEMENT ████ -/
theorem proved : Rows.AcctTellsSaid :=
  over
#print axioms proved
end Go.Proofs.Ytakapalpcglfaaa.acctTells
