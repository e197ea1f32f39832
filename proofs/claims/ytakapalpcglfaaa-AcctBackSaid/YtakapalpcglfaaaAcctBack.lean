/- The statement 'Rows.AcctBackSaid': its function is run by the pure machine on data of its parameters' kinds; it gives true. No condition. -/
import Derived.Test.YtakapalpcglfaaaRows
import Derived.Test.YtakapalpcglfaaaSa
import Derived.WalkKit
import Derived.ProofKit
import Derived.OpenShut
import Derived.ShutString
namespace Go.Proofs.Ytakapalpcglfaaa.acctBack
open Go Go.Proofs Go.ChangeShapes Go.WideShapes Go.ChangeAt Go.RowKit Vm
set_option linter.unusedVariables false
set_option linter.unusedSimpArgs false

theorem own : ownKnob Try.prog.godebug = none := by kernel_rfl

def kinds : List Kd := [.struct [.int .i64, .int .i64, .int .i64], .int .i64, .int .i64]
theorem l5 (L n : Nat) (a b c m k : Int) : FK tab sp1 lsp0 L (n+8) 5 [.agg [.int .i64 a, .int .i64 b, .int .i64 c], .int .i64 m, .int .i64 k] =
    (cond (bif bif bif !bif bif bif bif bif decide (a > (-4611686018427387904 : Int)) then decide (a < (4611686018427387904 : Int)) else false then decide (b ≥ (0 : Int)) else false then decide (b ≤ (2305843009213693952 : Int)) else false then decide (c ≥ (0 : Int)) else false then decide (c ≤ (2305843009213693952 : Int)) else false then true else decide (m < (0 : Int)) then true else decide (k < (1 : Int)) then true else decide (k > (3 : Int)))
     (some (.bool true))
     (need (inS.D [DV.agg [DV.int IntKind.i64 a, DV.int IntKind.i64 b, DV.int IntKind.i64 c], DV.int IntKind.i64 m])
      (cond ((bif inOk a m then (0 : Int) else (8 : Int)) != (0 : Int))
       (cond (bif (bif inOk a m then (0 : Int) else (8 : Int)) == (8 : Int) then (bif inOk a m then a + m else a) == a && (b == b && (c == c && true)) else false)
        (need (trueS.D [])
         (some (.bool true))
        )
        (some (.bool false))
       )
       (need (outS.D [DV.agg [DV.int IntKind.i64 (bif inOk a m then a + m else a), DV.int IntKind.i64 b, DV.int IntKind.i64 c], DV.int IntKind.i64 m, DV.int IntKind.i64 k])
        (cond (bif bif bif bif (bif outOk (bif inOk a m then a + m else a) m then (0 : Int) else (8 : Int)) != (0 : Int) then true else (bif outOk (bif inOk a m then a + m else a) m then (bif inOk a m then a + m else a) - m else bif inOk a m then a + m else a) != a then true else b != b then true else decide ((bif outOk (bif inOk a m then a + m else a) m && (k == (1 : Int) || k == (2 : Int)) then keptI c m else c) > c) then true else decide ((bif outOk (bif inOk a m then a + m else a) m && (k == (1 : Int) || k == (2 : Int)) then keptI c m else c) < (0 : Int)))
         (some (.bool false))
         (cond (bif bif k != (3 : Int) then true else (bif outOk (bif inOk a m then a + m else a) m && (k == (1 : Int) || k == (2 : Int)) then keptI c m else c) == c then bif k == (3 : Int) then true else (bif outOk (bif inOk a m then a + m else a) m && (k == (1 : Int) || k == (2 : Int)) then keptI c m else c) == if IntKind.i64.wrap (c - if c < m then c else m) > (0 : Int) then IntKind.i64.wrap (c - if c < m then c else m) else (0 : Int) else false)
          (need (trueS.D [])
           (some (.bool true))
          )
          (some (.bool false))
         )
        )
       )
      )
     )
    ) := by kernel_rfl
theorem runsS (xs : List DV) (h : KVs kinds xs) : ∃ call, CallOk Try.prog call ∧ call 5 xs = some (.bool true) := by
  simp only [kinds, KVs, KV, KC, KCs] at h
  obtain ⟨x, xs', rfl, ⟨ps, rfl, _, _, rfl, ⟨a, rfl, _⟩, _, _, rfl, ⟨b, rfl, _⟩, _, _, rfl, ⟨c, rfl, _⟩, rfl⟩, x2, xs2, rfl, ⟨m, hx2, w1⟩, x3, xs3, rfl, ⟨k, hx3, w2⟩, rfl⟩ := h
  cases hx2
  cases hx3
  refine of_FK tab_ok sp1_ok (L := 100) (n := 0 + 8) ((l5 100 0 a b c m k).trans ?_)
  refine cond_of (fun _ => rfl) (fun h => ?_)
  change (bif bif bif !isB a b c then true else decide (m < 0) then true else decide (k < 1) then true else decide (k > 3)) = false at h
  have hb : isB a b c = true := by cases hb : isB a b c <;> simp [hb] at h ⊢
  have hA := isB_iff.1 hb
  have hm : 0 ≤ m ∧ 1 ≤ k ∧ k ≤ 3 := by
    rw [hb] at h
    simp at h
    omega
  have w64 := wf_i64 w1
  clear h hb w1 w2
  obtain ⟨h1, h2, h3, h4, h5, h6⟩ := id hA
  refine (need_pos ⟨a, b, c, m, rfl, hA, by omega, w64⟩).trans ?_
  by_cases hi : a + m < 4611686018427387904
  · rw [show inOk a m = true from decide_eq_true hi]
    have hA2 : isA (a + m) b c := ⟨by omega, hi, h3, h4, h5, h6⟩
    refine (need_pos ⟨a + m, b, c, m, k, rfl, hA2, by omega, w64⟩).trans ?_
    have ho : outOk (a + m) m = true := decide_eq_true (by omega)
    have hk := keptI_fits h5 h6 (show 0 ≤ m by omega)
    simp only [cond_true, ho, Bool.true_and]
    have hs : a + m - m = a := by omega
    rw [hs]
    by_cases hu : k = 3
    · subst hu
      simp only [show ((3 : Int) == 1) = false from rfl, show ((3 : Int) == 2) = false from rfl, Bool.or_self, cond_false, bne_self_eq_false, beq_self_eq_true, cond_true, Int.lt_irrefl, decide_false, gt_iff_lt]
      rw [decide_eq_false (show ¬ c < 0 by omega), cond_false]
      exact need_pos rfl
    · have hu2 : ((k == 1) || (k == 2)) = true := by
        simp
        omega
      have hk3 : (k == 3) = false := by simpa using hu
      have hmin : (if c < m then c else m) = min m c := by
        split <;> omega
      have w1 : IntKind.i64.wrap (c - min m c) = c - min m c := by rw [wrap_fits] <;> omega
      have hkept : (if c - min m c > 0 then c - min m c else 0) = keptI c m := by
        unfold keptI
        by_cases hc : m ≥ c
        · rw [decide_eq_true hc]; simp only [cond_true]; split <;> omega
        · rw [decide_eq_false hc]; simp only [cond_false]; split <;> omega
      rw [hu2, hmin, w1, hkept]
      simp only [cond_true, cond_false, bne_self_eq_false, gt_iff_lt, hk3, beq_self_eq_true]
      rw [decide_eq_false (show ¬ c < keptI c m by omega), decide_eq_false (show ¬ keptI c m < 0 by omega)]
      simp only [cond_false]
      have : (k != 3) = true := by simpa using hu
      rw [this]
      exact need_pos rfl
  · rw [show inOk a m = false from decide_eq_false hi]
    simp only [cond_false, beq_self_eq_true, Bool.and_self]
    exact need_pos rfl

set_option maxRecDepth 100000 in
theorem lifted (os : Os) (started : os.Started) (H : Type) (enc : TypeId × Value → H) :
    ReturnsInHanded {} Try.checked os 5 .any (Rows.acctBackSpec.pre6 enc Try.prog Try.f5 Rows.acctBackRow.domain false) (Rows.acctBackSpec.post enc Try.prog Try.f5 false true false false) := by
  refine returnsInHanded_of_change (C := Try.checked) own started (by kernel_rfl) Try.func5
    (ChangeSpec.witness6 (enc := enc) (C := Try.checked) false ⟨#[], #[.agg #[.int .i64 0, .int .i64 0, .int .i64 0], .int .i64 0, .int .i64 0], []⟩ 8 (by kernel_rfl) (by kernel_rfl) (by kernel_rfl) (by kernel_rfl)) ?_
  intro W base args ds gs before hval0 hW hcnd _
  exact law_contract (H := H) (enc := enc) (s := Rows.acctBackSpec) (fn := Try.f5) (by kernel_rfl) rfl (n := 8) (Ks := kinds) (by kernel_rfl) (by kernel_rfl) (rt := 4) (by kernel_rfl) (by kernel_rfl)
    (fun ds h => by
      have h' : ds.length = 3 := h
      obtain ⟨d0, d1, d2, rfl⟩ := len3 h'
      exact ⟨rfl, rfl, rfl⟩) runsS W base args ds gs before hval0 hW

theorem over : Rows.acctBackRow.holds Try.pinned (OpenSpec.ofChange Rows.acctBackSpec) :=
  OpenClaim.holds_of_wide 5 Try.f5 rfl rfl rfl rfl rfl rfl rfl ⟨rfl, rfl, rfl, rfl, rfl⟩ rfl rfl rfl rfl rfl (by kernel_rfl) Try.func5 (by kernel_rfl)
    (of_decide_eq_true (by kernel_rfl)) (by unfold Func.isWrapper; first | (rw [if_pos (by decide +kernel)]; kernel_rfl) | (rw [if_neg (by decide +kernel)]; exact ⟨rfl, rfl⟩))
    (fun os started H enc _ => lifted os started H enc)

/-- ████ THE STATEMENT ████ -/
theorem proved : Rows.AcctBackSaid :=
  over
#print axioms proved
end Go.Proofs.Ytakapalpcglfaaa.acctBack
