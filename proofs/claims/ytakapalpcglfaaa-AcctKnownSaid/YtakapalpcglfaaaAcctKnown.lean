/- The statement 'Rows.AcctKnownSaid': its function is run by the pure machine on data of its parameters' kinds; it gives true. No condition. -/
import Derived.Test.YtakapalpcglfaaaRows
import Derived.Test.YtakapalpcglfaaaSa
import Derived.WalkKit
import Derived.ProofKit
import Derived.OpenShut
import Derived.ShutString
namespace Go.Proofs.Ytakapalpcglfaaa.acctKnown
open Go Go.Proofs Go.ChangeShapes Go.WideShapes Go.ChangeAt Go.RowKit Vm
set_option linter.unusedVariables false
set_option linter.unusedSimpArgs false

theorem own : ownKnob Try.prog.godebug = none := by kernel_rfl

def kinds : List Kd := [.int .i64]
noncomputable def spK : FuncId → Option FSpec := spAdd 13 trueS noSp
theorem spK_ok : ∀ f s, spK f = some s → s.ok Try.prog f := spAdd_ok known9 noSp_ok
theorem l6 (L n : Nat) (w : Int) : FK tab spK lsp0 L (n+8) 6 [.int .i64 w] =
    (cond (bif decide (w < (0 : Int)) then true else decide (w ≥ (6 : Int)))
     (some (.bool true))
     (cond (decide ((0 : Int) ≤ w))
      (cond (decide (w < (6 : Int)))
       (lookK ([[DV.int IntKind.i64 (4611686018427387904 : Int), DV.int IntKind.i64 (0 : Int), DV.int IntKind.i64 (0 : Int)], [DV.int IntKind.i64 (-4611686018427387904 : Int), DV.int IntKind.i64 (0 : Int), DV.int IntKind.i64 (0 : Int)], [DV.int IntKind.i64 (0 : Int), DV.int IntKind.i64 (-1 : Int), DV.int IntKind.i64 (0 : Int)], [DV.int IntKind.i64 (0 : Int), DV.int IntKind.i64 (2305843009213693953 : Int), DV.int IntKind.i64 (0 : Int)], [DV.int IntKind.i64 (0 : Int), DV.int IntKind.i64 (0 : Int), DV.int IntKind.i64 (-1 : Int)], [DV.int IntKind.i64 (0 : Int), DV.int IntKind.i64 (0 : Int), DV.int IntKind.i64 (2305843009213693953 : Int)]][(0 : Nat) + w.toNat]?)
        fun e3 =>
         (cond (decide ((3 : Nat) ≤ e3.length))
          (cond (okRow [DV.int IntKind.i64 (0 : Int), DV.int IntKind.i64 (0 : Int), DV.int IntKind.i64 (0 : Int)] (List.take (3 : Nat) e3))
           (cond (!bif bif bif bif bif decide ((cellA (List.take (3 : Nat) e3) (0 : Nat)).toI > (-4611686018427387904 : Int)) then decide ((cellA (List.take (3 : Nat) e3) (0 : Nat)).toI < (4611686018427387904 : Int)) else false then decide ((cellA (List.take (3 : Nat) e3) (1 : Nat)).toI ≥ (0 : Int)) else false then decide ((cellA (List.take (3 : Nat) e3) (1 : Nat)).toI ≤ (2305843009213693952 : Int)) else false then decide ((cellA (List.take (3 : Nat) e3) (2 : Nat)).toI ≥ (0 : Int)) else false then decide ((cellA (List.take (3 : Nat) e3) (2 : Nat)).toI ≤ (2305843009213693952 : Int)) else false)
            (need (trueS.D [])
             (some (.bool true))
            )
            (some (.bool false))
           )
           none
          )
          none
         )
       )
       none
      )
      none
     )
    ) := by kernel_rfl
theorem runsS (xs : List DV) (h : KVs kinds xs) : Ent Try.prog 6 xs (.bool true) := by
  simp only [kinds, KVs, KV, KC] at h
  obtain ⟨x, xs', rfl, ⟨w, hx, w1⟩, rfl⟩ := h
  cases hx
  by_cases h0 : w = 0
  · subst h0; exact of_acall tab_ok ⟨10, 100, by kernel_rfl⟩
  by_cases h1 : w = 1
  · subst h1; exact of_acall tab_ok ⟨10, 100, by kernel_rfl⟩
  by_cases h2 : w = 2
  · subst h2; exact of_acall tab_ok ⟨10, 100, by kernel_rfl⟩
  by_cases h3 : w = 3
  · subst h3; exact of_acall tab_ok ⟨10, 100, by kernel_rfl⟩
  by_cases h4 : w = 4
  · subst h4; exact of_acall tab_ok ⟨10, 100, by kernel_rfl⟩
  by_cases h5 : w = 5
  · subst h5; exact of_acall tab_ok ⟨10, 100, by kernel_rfl⟩
  refine of_FK tab_ok spK_ok (L := 100) (n := 0 + 8) ((l6 100 0 w).trans ?_)
  refine cond_of (fun _ => rfl) (fun h => ?_)
  exfalso
  simp at h
  omega

set_option maxRecDepth 100000 in
theorem lifted (os : Os) (started : os.Started) (H : Type) (enc : TypeId × Value → H) :
    ReturnsInHanded {} Try.checked os 6 .any (Rows.acctKnownSpec.pre6 enc Try.prog Try.f6 Rows.acctKnownRow.domain false) (Rows.acctKnownSpec.post enc Try.prog Try.f6 false true false false) := by
  refine returnsInHanded_of_change (C := Try.checked) own started (by kernel_rfl) Try.func6
    (ChangeSpec.witness6 (enc := enc) (C := Try.checked) false ⟨#[], #[.int .i64 0], []⟩ 8 (by kernel_rfl) (by kernel_rfl) (by kernel_rfl) (by kernel_rfl)) ?_
  intro W base args ds gs before hval0 hW hcnd _
  exact law_contract (H := H) (enc := enc) (s := Rows.acctKnownSpec) (fn := Try.f6) (by kernel_rfl) rfl (n := 8) (Ks := kinds) (by kernel_rfl) (by kernel_rfl) (rt := 4) (by kernel_rfl) (by kernel_rfl)
    (fun ds h => by
      have h' : ds.length = 1 := h
      obtain ⟨d0, rfl⟩ := len1 h'
      exact ⟨rfl, rfl, rfl⟩) runsS W base args ds gs before hval0 hW

theorem over : Rows.acctKnownRow.holds Try.pinned (OpenSpec.ofChange Rows.acctKnownSpec) :=
  OpenClaim.holds_of_wide 6 Try.f6 rfl rfl rfl rfl rfl rfl rfl ⟨rfl, rfl, rfl, rfl, rfl⟩ rfl rfl rfl rfl rfl (by kernel_rfl) Try.func6 (by kernel_rfl)
    (of_decide_eq_true (by kernel_rfl)) (by unfold Func.isWrapper; first | (rw [if_pos (by decide +kernel)]; kernel_rfl) | (rw [if_neg (by decide +kernel)]; exact ⟨rfl, rfl⟩))
    (fun os started H enc _ => lifted os started H enc)

/-- ████ THE STATEMENT ████ -/
theorem proved : Rows.AcctKnownSaid :=
  over
#print axioms proved
end Go.Proofs.Ytakapalpcglfaaa.acctKnown
