/- The statement 'Rows.CashBigSaid': its function is run by the pure machine on data of its parameters' kinds; it gives true. No condition. -/
import Derived.Test.YtianifckopijjaaRows
import Derived.Test.YtianifckopijjaaSf
import Derived.WalkKit
import Derived.ProofKit
import Derived.OpenShut
import Derived.ShutString
namespace Go.Proofs.Ytianifckopijjaa.cashBig
open Go Go.Proofs Go.ChangeShapes Go.WideShapes Go.ChangeAt Go.RowKit Vm
set_option linter.unusedVariables false
set_option linter.unusedSimpArgs false

theorem own : ownKnob Try.prog.godebug = none := by kernel_rfl

def kinds : List Kd := [.int .i64]
noncomputable def spB : FuncId → Option FSpec := spAdd 15 trueS (spAdd 17 worthV noSp)
theorem spB_ok : ∀ f s, spB f = some s → s.ok Try.prog f := spAdd_ok known15 (spAdd_ok worth17v noSp_ok)
theorem k7 (n : Nat) (w : Int) : FK tab spB lsp0 20 (n+8) 7 [.int .i64 w] =
    (cond (bif decide (w < (0 : Int)) then true else decide (w ≥ (7 : Int)))
     (some (.bool true))
     (cond (decide ((0 : Int) ≤ w))
      (cond (decide (w < (7 : Int)))
       (lookK ([[DV.int IntKind.i64 (4611686018427387905 : Int)], [DV.int IntKind.i64 (4611686018427387904 : Int)], [DV.int IntKind.i64 (9223372036854775807 : Int)], [DV.int IntKind.i64 (9223372036854775807 : Int)], [DV.int IntKind.i64 (5 : Int)], [DV.int IntKind.i64 (1099511627776 : Int)], [DV.int IntKind.i64 (1099511627776 : Int)]][(0 : Nat) + w.toNat]?)
        fun e3 =>
         (lookK (e3[(0 : Nat)]?)
          fun e5 =>
           (cond ((DV.int IntKind.i64 (0 : Int)).isK e5)
            (cond (decide ((0 : Int) ≤ w))
             (cond (decide (w < (7 : Int)))
              (lookK ([[DV.int IntKind.i64 (2 : Int)], [DV.int IntKind.i64 (4 : Int)], [DV.int IntKind.i64 (10000 : Int)], [DV.int IntKind.i64 (10000 : Int)], [DV.int IntKind.i64 (-1 : Int)], [DV.int IntKind.i64 (1099511627776 : Int)], [DV.int IntKind.i64 (68719476736 : Int)]][(0 : Nat) + w.toNat]?)
               fun e10 =>
                (lookK (e10[(0 : Nat)]?)
                 fun e12 =>
                  (cond ((DV.int IntKind.i64 (0 : Int)).isK e12)
                   (cond (decide ((0 : Int) ≤ w))
                    (cond (decide (w < (7 : Int)))
                     (lookK ([[DV.int IntKind.i64 (5000 : Int)], [DV.int IntKind.i64 (7500 : Int)], [DV.int IntKind.i64 (9999 : Int)], [DV.int IntKind.i64 (9998 : Int)], [DV.int IntKind.i64 (0 : Int)], [DV.int IntKind.i64 (10000 : Int)], [DV.int IntKind.i64 (9999 : Int)]][(0 : Nat) + w.toNat]?)
                      fun e17 =>
                       (lookK (e17[(0 : Nat)]?)
                        fun e19 =>
                         (cond ((DV.int IntKind.i64 (0 : Int)).isK e19)
                          (need (worthV.D [DV.int IntKind.i64 e5.toI, DV.int IntKind.i64 e12.toI, DV.int IntKind.i64 e19.toI])
                           (cond (decide ((0 : Int) ≤ w))
                            (cond (decide (w < (7 : Int)))
                             (lookK ([[DV.int IntKind.i64 (4611686018427387905 : Int)], [DV.int IntKind.i64 (4611686018427387904 : Int)], [DV.int IntKind.i64 (9223372036854775807 : Int)], [DV.int IntKind.i64 (0 : Int)], [DV.int IntKind.i64 (0 : Int)], [DV.int IntKind.i64 (0 : Int)], [DV.int IntKind.i64 (7555786372591432341 : Int)]][(0 : Nat) + w.toNat]?)
                              fun e25 =>
                               (lookK (e25[(0 : Nat)]?)
                                fun e27 =>
                                 (cond ((DV.int IntKind.i64 (0 : Int)).isK e27)
                                  (cond ((bif wOk e5.toI e12.toI e19.toI then wI e5.toI e12.toI e19.toI else (0 : Int)) == e27.toI)
                                   (cond (decide ((0 : Int) ≤ w))
                                    (cond (decide (w < (7 : Int)))
                                     (lookK ([[DV.bool true], [DV.bool true], [DV.bool true], [DV.bool false], [DV.bool false], [DV.bool true], [DV.bool true]][(0 : Nat) + w.toNat]?)
                                      fun e33 =>
                                       (lookK (e33[(0 : Nat)]?)
                                        fun e35 =>
                                         (cond ((DV.bool false).isK e35)
                                          (cond (wOk e5.toI e12.toI e19.toI == e35.toB)
                                           (need (trueS.D [])
                                            (some (.bool true))
                                           )
                                           (some (.bool false))
                                          )
                                          none
                                         )
                                       )
                                     )
                                     none
                                    )
                                    none
                                   )
                                   (some (.bool false))
                                  )
                                  none
                                 )
                               )
                             )
                             none
                            )
                            none
                           )
                          )
                          none
                         )
                       )
                     )
                     none
                    )
                    none
                   )
                   none
                  )
                )
              )
              none
             )
             none
            )
            none
           )
         )
       )
       none
      )
      none
     )
    ) := by kernel_rfl
theorem k70 (n : Nat) : FK tab spB lsp0 20 (n+8) 7 [.int .i64 0] =
    (need (worthV.D [DV.int IntKind.i64 (4611686018427387905 : Int), DV.int IntKind.i64 (2 : Int), DV.int IntKind.i64 (5000 : Int)])
     (need (trueS.D [])
      (some (.bool true))
     )
    ) := by kernel_rfl
theorem k71 (n : Nat) : FK tab spB lsp0 20 (n+8) 7 [.int .i64 1] =
    (need (worthV.D [DV.int IntKind.i64 (4611686018427387904 : Int), DV.int IntKind.i64 (4 : Int), DV.int IntKind.i64 (7500 : Int)])
     (need (trueS.D [])
      (some (.bool true))
     )
    ) := by kernel_rfl
theorem k72 (n : Nat) : FK tab spB lsp0 20 (n+8) 7 [.int .i64 2] =
    (need (worthV.D [DV.int IntKind.i64 (9223372036854775807 : Int), DV.int IntKind.i64 (10000 : Int), DV.int IntKind.i64 (9999 : Int)])
     (need (trueS.D [])
      (some (.bool true))
     )
    ) := by kernel_rfl
theorem k73 (n : Nat) : FK tab spB lsp0 20 (n+8) 7 [.int .i64 3] =
    (need (worthV.D [DV.int IntKind.i64 (9223372036854775807 : Int), DV.int IntKind.i64 (10000 : Int), DV.int IntKind.i64 (9998 : Int)])
     (need (trueS.D [])
      (some (.bool true))
     )
    ) := by kernel_rfl
theorem k74 (n : Nat) : FK tab spB lsp0 20 (n+8) 7 [.int .i64 4] =
    (need (worthV.D [DV.int IntKind.i64 (5 : Int), DV.int IntKind.i64 (-1 : Int), DV.int IntKind.i64 (0 : Int)])
     (need (trueS.D [])
      (some (.bool true))
     )
    ) := by kernel_rfl
theorem k75 (n : Nat) : FK tab spB lsp0 20 (n+8) 7 [.int .i64 5] =
    (need (worthV.D [DV.int IntKind.i64 (1099511627776 : Int), DV.int IntKind.i64 (1099511627776 : Int), DV.int IntKind.i64 (10000 : Int)])
     (need (trueS.D [])
      (some (.bool true))
     )
    ) := by kernel_rfl
theorem k76 (n : Nat) : FK tab spB lsp0 20 (n+8) 7 [.int .i64 6] =
    (need (worthV.D [DV.int IntKind.i64 (1099511627776 : Int), DV.int IntKind.i64 (68719476736 : Int), DV.int IntKind.i64 (9999 : Int)])
     (need (trueS.D [])
      (some (.bool true))
     )
    ) := by kernel_rfl
theorem runsS (xs : List DV) (h : KVs kinds xs) : Ent Try.prog 7 xs (.bool true) := by
  simp only [kinds, KVs, KV, KC] at h
  obtain ⟨x, xs', rfl, ⟨w, hx, w1⟩, rfl⟩ := h
  cases hx
  by_cases h0 : w = 0
  · subst h0
    exact of_FK tab_ok spB_ok (L := 20) (n := 0 + 8) ((k70 0).trans ((need_pos ⟨_, _, _, rfl, by unfold is64; omega, by unfold is64; omega, by unfold is64; omega⟩).trans (need_pos rfl)))
  by_cases h1 : w = 1
  · subst h1
    exact of_FK tab_ok spB_ok (L := 20) (n := 0 + 8) ((k71 0).trans ((need_pos ⟨_, _, _, rfl, by unfold is64; omega, by unfold is64; omega, by unfold is64; omega⟩).trans (need_pos rfl)))
  by_cases h2 : w = 2
  · subst h2
    exact of_FK tab_ok spB_ok (L := 20) (n := 0 + 8) ((k72 0).trans ((need_pos ⟨_, _, _, rfl, by unfold is64; omega, by unfold is64; omega, by unfold is64; omega⟩).trans (need_pos rfl)))
  by_cases h3 : w = 3
  · subst h3
    exact of_FK tab_ok spB_ok (L := 20) (n := 0 + 8) ((k73 0).trans ((need_pos ⟨_, _, _, rfl, by unfold is64; omega, by unfold is64; omega, by unfold is64; omega⟩).trans (need_pos rfl)))
  by_cases h4 : w = 4
  · subst h4
    exact of_FK tab_ok spB_ok (L := 20) (n := 0 + 8) ((k74 0).trans ((need_pos ⟨_, _, _, rfl, by unfold is64; omega, by unfold is64; omega, by unfold is64; omega⟩).trans (need_pos rfl)))
  by_cases h5 : w = 5
  · subst h5
    exact of_FK tab_ok spB_ok (L := 20) (n := 0 + 8) ((k75 0).trans ((need_pos ⟨_, _, _, rfl, by unfold is64; omega, by unfold is64; omega, by unfold is64; omega⟩).trans (need_pos rfl)))
  by_cases h6 : w = 6
  · subst h6
    exact of_FK tab_ok spB_ok (L := 20) (n := 0 + 8) ((k76 0).trans ((need_pos ⟨_, _, _, rfl, by unfold is64; omega, by unfold is64; omega, by unfold is64; omega⟩).trans (need_pos rfl)))
  refine of_FK tab_ok spB_ok (L := 20) (n := 0 + 8) ((k7 0 w).trans ?_)
  refine cond_of (fun _ => rfl) (fun h => ?_)
  exfalso
  simp at h
  omega

set_option maxRecDepth 100000 in
theorem lifted (os : Os) (started : os.Started) (H : Type) (enc : TypeId × Value → H) :
    ReturnsInHanded {} Try.checked os 7 .any (Rows.cashBigSpec.pre6 enc Try.prog Try.f7 Rows.cashBigRow.domain false) (Rows.cashBigSpec.post enc Try.prog Try.f7 false true false false) := by
  refine returnsInHanded_of_change (C := Try.checked) own started (by kernel_rfl) Try.func7
    (ChangeSpec.witness6 (enc := enc) (C := Try.checked) false ⟨#[], #[.int .i64 0], []⟩ 8 (by kernel_rfl) (by kernel_rfl) (by kernel_rfl) (by kernel_rfl)) ?_
  intro W base args ds gs before hval0 hW hcnd _
  exact law_contract (H := H) (enc := enc) (s := Rows.cashBigSpec) (fn := Try.f7) (by kernel_rfl) rfl (n := 8) (Ks := kinds) (by kernel_rfl) (by kernel_rfl) (rt := 4) (by kernel_rfl) (by kernel_rfl)
    (fun ds h => by
      have h' : ds.length = 1 := h
      obtain ⟨d0, rfl⟩ := len1 h'
      exact ⟨rfl, rfl, rfl⟩) runsS W base args ds gs before hval0 hW

theorem over : Rows.cashBigRow.holds Try.pinned (OpenSpec.ofChange Rows.cashBigSpec) :=
  OpenClaim.holds_of_wide 7 Try.f7 rfl rfl rfl rfl rfl rfl rfl ⟨rfl, rfl, rfl, rfl, rfl⟩ rfl rfl rfl rfl rfl (by kernel_rfl) Try.func7 (by kernel_rfl)
    (of_decide_eq_true (by kernel_rfl)) (by unfold Func.isWrapper; first | (rw [if_pos (by decide +kernel)]; kernel_rfl) | (rw [if_neg (by decide +kernel)]; exact ⟨rfl, rfl⟩))
    (fun os started H enc _ => lifted os started H enc)

/-- ████ THE STATEMENT ████ -/
theorem proved : Rows.CashBigSaid :=
  over
#print axioms proved
end Go.Proofs.Ytianifckopijjaa.cashBig
