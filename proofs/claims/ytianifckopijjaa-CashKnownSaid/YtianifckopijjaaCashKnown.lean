/- The statement 'Rows.CashKnownSaid': its function is run by the pure machine on data of its parameters' kinds; it gives true. No condition. -/
import Derived.Test.YtianifckopijjaaRows
import Derived.Test.YtianifckopijjaaSc
import Derived.WalkKit
import Derived.ProofKit
import Derived.OpenShut
import Derived.ShutString
namespace Go.Proofs.Ytianifckopijjaa.cashKnown
open Go Go.Proofs Go.ChangeShapes Go.WideShapes Go.ChangeAt Go.RowKit Vm
set_option linter.unusedVariables false
set_option linter.unusedSimpArgs false

theorem own : ownKnob Try.prog.godebug = none := by kernel_rfl

def kinds : List Kd := [.int .i64]
noncomputable def sp6 : FuncId → Option FSpec := spAdd 15 trueS (spAdd 13 sumS noSp)
theorem sp6_ok : ∀ f s, sp6 f = some s → s.ok Try.prog f := spAdd_ok known15 (spAdd_ok sum13 noSp_ok)
theorem k6 (n : Nat) (w : Int) : FK tab sp6 lsp0 20 (n+8) 6 [.int .i64 w] =
    (cond (bif decide (w < (0 : Int)) then true else decide (w ≥ (8 : Int)))
     (some (.bool true))
     (cond (decide ((0 : Int) ≤ w))
      (cond (decide (w < (8 : Int)))
       (cond (((0 : Nat) + w.toNat).beq (0 : Nat))
        (need (sumS.D [DV.sl SK.ro (1 : Nat) [[DV.int IntKind.i64 (9223372036854775807 : Int)], [DV.int IntKind.i64 (1 : Int)]]])
         (cond (decide ((0 : Int) ≤ w))
          (cond (decide (w < (8 : Int)))
           (lookK ([[DV.int IntKind.i64 (0 : Int)], [DV.int IntKind.i64 (0 : Int)], [DV.int IntKind.i64 (-2 : Int)], [DV.int IntKind.i64 (9223372036854775807 : Int)], [DV.int IntKind.i64 (-1 : Int)], [DV.int IntKind.i64 (0 : Int)], [DV.int IntKind.i64 (0 : Int)], [DV.int IntKind.i64 (0 : Int)]][(0 : Nat) + w.toNat]?)
            fun e7 =>
             (lookK (e7[(0 : Nat)]?)
              fun e9 =>
               (cond ((DV.int IntKind.i64 (0 : Int)).isK e9)
                (cond ((bif fitsB (sumZ (rows (DV.sl SK.ro (1 : Nat) [[DV.int IntKind.i64 (9223372036854775807 : Int)], [DV.int IntKind.i64 (1 : Int)]]))) then sumZ (rows (DV.sl SK.ro (1 : Nat) [[DV.int IntKind.i64 (9223372036854775807 : Int)], [DV.int IntKind.i64 (1 : Int)]])) else (0 : Int)) == e9.toI)
                 (cond (decide ((0 : Int) ≤ w))
                  (cond (decide (w < (8 : Int)))
                   (lookK ([[DV.bool false], [DV.bool false], [DV.bool true], [DV.bool true], [DV.bool true], [DV.bool true], [DV.bool true], [DV.bool false]][(0 : Nat) + w.toNat]?)
                    fun e15 =>
                     (lookK (e15[(0 : Nat)]?)
                      fun e17 =>
                       (cond ((DV.bool false).isK e17)
                        (cond (fitsB (sumZ (rows (DV.sl SK.ro (1 : Nat) [[DV.int IntKind.i64 (9223372036854775807 : Int)], [DV.int IntKind.i64 (1 : Int)]]))) == e17.toB)
                         (need (trueS.D [])
                          (some (.bool true))
                         )
                         (some (.bool false))
                        )
                        none
                       )
                     )
                   )
                   none
                  )
                  none
                 )
                 (some (.bool false))
                )
                none
               )
             )
           )
           none
          )
          none
         )
        )
        (cond (((0 : Nat) + w.toNat - (1 : Nat)).beq (0 : Nat))
         (need (sumS.D [DV.sl SK.ro (1 : Nat) [[DV.int IntKind.i64 (-9223372036854775808 : Int)], [DV.int IntKind.i64 (-1 : Int)]]])
          (cond (decide ((0 : Int) ≤ w))
           (cond (decide (w < (8 : Int)))
            (lookK ([[DV.int IntKind.i64 (0 : Int)], [DV.int IntKind.i64 (0 : Int)], [DV.int IntKind.i64 (-2 : Int)], [DV.int IntKind.i64 (9223372036854775807 : Int)], [DV.int IntKind.i64 (-1 : Int)], [DV.int IntKind.i64 (0 : Int)], [DV.int IntKind.i64 (0 : Int)], [DV.int IntKind.i64 (0 : Int)]][(0 : Nat) + w.toNat]?)
             fun e8 =>
              (lookK (e8[(0 : Nat)]?)
               fun e10 =>
                (cond ((DV.int IntKind.i64 (0 : Int)).isK e10)
                 (cond ((bif fitsB (sumZ (rows (DV.sl SK.ro (1 : Nat) [[DV.int IntKind.i64 (-9223372036854775808 : Int)], [DV.int IntKind.i64 (-1 : Int)]]))) then sumZ (rows (DV.sl SK.ro (1 : Nat) [[DV.int IntKind.i64 (-9223372036854775808 : Int)], [DV.int IntKind.i64 (-1 : Int)]])) else (0 : Int)) == e10.toI)
                  (cond (decide ((0 : Int) ≤ w))
                   (cond (decide (w < (8 : Int)))
                    (lookK ([[DV.bool false], [DV.bool false], [DV.bool true], [DV.bool true], [DV.bool true], [DV.bool true], [DV.bool true], [DV.bool false]][(0 : Nat) + w.toNat]?)
                     fun e16 =>
                      (lookK (e16[(0 : Nat)]?)
                       fun e18 =>
                        (cond ((DV.bool false).isK e18)
                         (cond (fitsB (sumZ (rows (DV.sl SK.ro (1 : Nat) [[DV.int IntKind.i64 (-9223372036854775808 : Int)], [DV.int IntKind.i64 (-1 : Int)]]))) == e18.toB)
                          (need (trueS.D [])
                           (some (.bool true))
                          )
                          (some (.bool false))
                         )
                         none
                        )
                      )
                    )
                    none
                   )
                   none
                  )
                  (some (.bool false))
                 )
                 none
                )
              )
            )
            none
           )
           none
          )
         )
         (cond (((0 : Nat) + w.toNat - (1 : Nat) - (1 : Nat)).beq (0 : Nat))
          (need (sumS.D [DV.sl SK.ro (1 : Nat) [[DV.int IntKind.i64 (9223372036854775807 : Int)], [DV.int IntKind.i64 (9223372036854775807 : Int)], [DV.int IntKind.i64 (-9223372036854775808 : Int)], [DV.int IntKind.i64 (-9223372036854775808 : Int)]]])
           (cond (decide ((0 : Int) ≤ w))
            (cond (decide (w < (8 : Int)))
             (lookK ([[DV.int IntKind.i64 (0 : Int)], [DV.int IntKind.i64 (0 : Int)], [DV.int IntKind.i64 (-2 : Int)], [DV.int IntKind.i64 (9223372036854775807 : Int)], [DV.int IntKind.i64 (-1 : Int)], [DV.int IntKind.i64 (0 : Int)], [DV.int IntKind.i64 (0 : Int)], [DV.int IntKind.i64 (0 : Int)]][(0 : Nat) + w.toNat]?)
              fun e9 =>
               (lookK (e9[(0 : Nat)]?)
                fun e11 =>
                 (cond ((DV.int IntKind.i64 (0 : Int)).isK e11)
                  (cond ((bif fitsB (sumZ (rows (DV.sl SK.ro (1 : Nat) [[DV.int IntKind.i64 (9223372036854775807 : Int)], [DV.int IntKind.i64 (9223372036854775807 : Int)], [DV.int IntKind.i64 (-9223372036854775808 : Int)], [DV.int IntKind.i64 (-9223372036854775808 : Int)]]))) then sumZ (rows (DV.sl SK.ro (1 : Nat) [[DV.int IntKind.i64 (9223372036854775807 : Int)], [DV.int IntKind.i64 (9223372036854775807 : Int)], [DV.int IntKind.i64 (-9223372036854775808 : Int)], [DV.int IntKind.i64 (-9223372036854775808 : Int)]])) else (0 : Int)) == e11.toI)
                   (cond (decide ((0 : Int) ≤ w))
                    (cond (decide (w < (8 : Int)))
                     (lookK ([[DV.bool false], [DV.bool false], [DV.bool true], [DV.bool true], [DV.bool true], [DV.bool true], [DV.bool true], [DV.bool false]][(0 : Nat) + w.toNat]?)
                      fun e17 =>
                       (lookK (e17[(0 : Nat)]?)
                        fun e19 =>
                         (cond ((DV.bool false).isK e19)
                          (cond (fitsB (sumZ (rows (DV.sl SK.ro (1 : Nat) [[DV.int IntKind.i64 (9223372036854775807 : Int)], [DV.int IntKind.i64 (9223372036854775807 : Int)], [DV.int IntKind.i64 (-9223372036854775808 : Int)], [DV.int IntKind.i64 (-9223372036854775808 : Int)]]))) == e19.toB)
                           (need (trueS.D [])
                            (some (.bool true))
                           )
                           (some (.bool false))
                          )
                          none
                         )
                       )
                     )
                     none
                    )
                    none
                   )
                   (some (.bool false))
                  )
                  none
                 )
               )
             )
             none
            )
            none
           )
          )
          (cond (((0 : Nat) + w.toNat - (1 : Nat) - (1 : Nat) - (1 : Nat)).beq (0 : Nat))
           (need (sumS.D [DV.sl SK.ro (1 : Nat) [[DV.int IntKind.i64 (9223372036854775807 : Int)], [DV.int IntKind.i64 (1 : Int)], [DV.int IntKind.i64 (-1 : Int)]]])
            (cond (decide ((0 : Int) ≤ w))
             (cond (decide (w < (8 : Int)))
              (lookK ([[DV.int IntKind.i64 (0 : Int)], [DV.int IntKind.i64 (0 : Int)], [DV.int IntKind.i64 (-2 : Int)], [DV.int IntKind.i64 (9223372036854775807 : Int)], [DV.int IntKind.i64 (-1 : Int)], [DV.int IntKind.i64 (0 : Int)], [DV.int IntKind.i64 (0 : Int)], [DV.int IntKind.i64 (0 : Int)]][(0 : Nat) + w.toNat]?)
               fun e10 =>
                (lookK (e10[(0 : Nat)]?)
                 fun e12 =>
                  (cond ((DV.int IntKind.i64 (0 : Int)).isK e12)
                   (cond ((bif fitsB (sumZ (rows (DV.sl SK.ro (1 : Nat) [[DV.int IntKind.i64 (9223372036854775807 : Int)], [DV.int IntKind.i64 (1 : Int)], [DV.int IntKind.i64 (-1 : Int)]]))) then sumZ (rows (DV.sl SK.ro (1 : Nat) [[DV.int IntKind.i64 (9223372036854775807 : Int)], [DV.int IntKind.i64 (1 : Int)], [DV.int IntKind.i64 (-1 : Int)]])) else (0 : Int)) == e12.toI)
                    (cond (decide ((0 : Int) ≤ w))
                     (cond (decide (w < (8 : Int)))
                      (lookK ([[DV.bool false], [DV.bool false], [DV.bool true], [DV.bool true], [DV.bool true], [DV.bool true], [DV.bool true], [DV.bool false]][(0 : Nat) + w.toNat]?)
                       fun e18 =>
                        (lookK (e18[(0 : Nat)]?)
                         fun e20 =>
                          (cond ((DV.bool false).isK e20)
                           (cond (fitsB (sumZ (rows (DV.sl SK.ro (1 : Nat) [[DV.int IntKind.i64 (9223372036854775807 : Int)], [DV.int IntKind.i64 (1 : Int)], [DV.int IntKind.i64 (-1 : Int)]]))) == e20.toB)
                            (need (trueS.D [])
                             (some (.bool true))
                            )
                            (some (.bool false))
                           )
                           none
                          )
                        )
                      )
                      none
                     )
                     none
                    )
                    (some (.bool false))
                   )
                   none
                  )
                )
              )
              none
             )
             none
            )
           )
           (cond (((0 : Nat) + w.toNat - (1 : Nat) - (1 : Nat) - (1 : Nat) - (1 : Nat)).beq (0 : Nat))
            (need (sumS.D [DV.sl SK.ro (1 : Nat) [[DV.int IntKind.i64 (-9223372036854775808 : Int)], [DV.int IntKind.i64 (9223372036854775807 : Int)]]])
             (cond (decide ((0 : Int) ≤ w))
              (cond (decide (w < (8 : Int)))
               (lookK ([[DV.int IntKind.i64 (0 : Int)], [DV.int IntKind.i64 (0 : Int)], [DV.int IntKind.i64 (-2 : Int)], [DV.int IntKind.i64 (9223372036854775807 : Int)], [DV.int IntKind.i64 (-1 : Int)], [DV.int IntKind.i64 (0 : Int)], [DV.int IntKind.i64 (0 : Int)], [DV.int IntKind.i64 (0 : Int)]][(0 : Nat) + w.toNat]?)
                fun e11 =>
                 (lookK (e11[(0 : Nat)]?)
                  fun e13 =>
                   (cond ((DV.int IntKind.i64 (0 : Int)).isK e13)
                    (cond ((bif fitsB (sumZ (rows (DV.sl SK.ro (1 : Nat) [[DV.int IntKind.i64 (-9223372036854775808 : Int)], [DV.int IntKind.i64 (9223372036854775807 : Int)]]))) then sumZ (rows (DV.sl SK.ro (1 : Nat) [[DV.int IntKind.i64 (-9223372036854775808 : Int)], [DV.int IntKind.i64 (9223372036854775807 : Int)]])) else (0 : Int)) == e13.toI)
                     (cond (decide ((0 : Int) ≤ w))
                      (cond (decide (w < (8 : Int)))
                       (lookK ([[DV.bool false], [DV.bool false], [DV.bool true], [DV.bool true], [DV.bool true], [DV.bool true], [DV.bool true], [DV.bool false]][(0 : Nat) + w.toNat]?)
                        fun e19 =>
                         (lookK (e19[(0 : Nat)]?)
                          fun e21 =>
                           (cond ((DV.bool false).isK e21)
                            (cond (fitsB (sumZ (rows (DV.sl SK.ro (1 : Nat) [[DV.int IntKind.i64 (-9223372036854775808 : Int)], [DV.int IntKind.i64 (9223372036854775807 : Int)]]))) == e21.toB)
                             (need (trueS.D [])
                              (some (.bool true))
                             )
                             (some (.bool false))
                            )
                            none
                           )
                         )
                       )
                       none
                      )
                      none
                     )
                     (some (.bool false))
                    )
                    none
                   )
                 )
               )
               none
              )
              none
             )
            )
            (cond (((0 : Nat) + w.toNat - (1 : Nat) - (1 : Nat) - (1 : Nat) - (1 : Nat) - (1 : Nat)).beq (0 : Nat))
             (need (sumS.D [DV.sl SK.ro (1 : Nat) []])
              (cond (decide ((0 : Int) ≤ w))
               (cond (decide (w < (8 : Int)))
                (lookK ([[DV.int IntKind.i64 (0 : Int)], [DV.int IntKind.i64 (0 : Int)], [DV.int IntKind.i64 (-2 : Int)], [DV.int IntKind.i64 (9223372036854775807 : Int)], [DV.int IntKind.i64 (-1 : Int)], [DV.int IntKind.i64 (0 : Int)], [DV.int IntKind.i64 (0 : Int)], [DV.int IntKind.i64 (0 : Int)]][(0 : Nat) + w.toNat]?)
                 fun e12 =>
                  (lookK (e12[(0 : Nat)]?)
                   fun e14 =>
                    (cond ((DV.int IntKind.i64 (0 : Int)).isK e14)
                     (cond ((bif fitsB (sumZ (rows (DV.sl SK.ro (1 : Nat) []))) then sumZ (rows (DV.sl SK.ro (1 : Nat) [])) else (0 : Int)) == e14.toI)
                      (cond (decide ((0 : Int) ≤ w))
                       (cond (decide (w < (8 : Int)))
                        (lookK ([[DV.bool false], [DV.bool false], [DV.bool true], [DV.bool true], [DV.bool true], [DV.bool true], [DV.bool true], [DV.bool false]][(0 : Nat) + w.toNat]?)
                         fun e20 =>
                          (lookK (e20[(0 : Nat)]?)
                           fun e22 =>
                            (cond ((DV.bool false).isK e22)
                             (cond (fitsB (sumZ (rows (DV.sl SK.ro (1 : Nat) []))) == e22.toB)
                              (need (trueS.D [])
                               (some (.bool true))
                              )
                              (some (.bool false))
                             )
                             none
                            )
                          )
                        )
                        none
                       )
                       none
                      )
                      (some (.bool false))
                     )
                     none
                    )
                  )
                )
                none
               )
               none
              )
             )
             (cond (((0 : Nat) + w.toNat - (1 : Nat) - (1 : Nat) - (1 : Nat) - (1 : Nat) - (1 : Nat) - (1 : Nat)).beq (0 : Nat))
              (need (sumS.D [DV.sl SK.ro (1 : Nat) [[DV.int IntKind.i64 (-9223372036854775808 : Int)], [DV.int IntKind.i64 (-9223372036854775808 : Int)], [DV.int IntKind.i64 (9223372036854775807 : Int)], [DV.int IntKind.i64 (9223372036854775807 : Int)], [DV.int IntKind.i64 (2 : Int)]]])
               (cond (decide ((0 : Int) ≤ w))
                (cond (decide (w < (8 : Int)))
                 (lookK ([[DV.int IntKind.i64 (0 : Int)], [DV.int IntKind.i64 (0 : Int)], [DV.int IntKind.i64 (-2 : Int)], [DV.int IntKind.i64 (9223372036854775807 : Int)], [DV.int IntKind.i64 (-1 : Int)], [DV.int IntKind.i64 (0 : Int)], [DV.int IntKind.i64 (0 : Int)], [DV.int IntKind.i64 (0 : Int)]][(0 : Nat) + w.toNat]?)
                  fun e13 =>
                   (lookK (e13[(0 : Nat)]?)
                    fun e15 =>
                     (cond ((DV.int IntKind.i64 (0 : Int)).isK e15)
                      (cond ((bif fitsB (sumZ (rows (DV.sl SK.ro (1 : Nat) [[DV.int IntKind.i64 (-9223372036854775808 : Int)], [DV.int IntKind.i64 (-9223372036854775808 : Int)], [DV.int IntKind.i64 (9223372036854775807 : Int)], [DV.int IntKind.i64 (9223372036854775807 : Int)], [DV.int IntKind.i64 (2 : Int)]]))) then sumZ (rows (DV.sl SK.ro (1 : Nat) [[DV.int IntKind.i64 (-9223372036854775808 : Int)], [DV.int IntKind.i64 (-9223372036854775808 : Int)], [DV.int IntKind.i64 (9223372036854775807 : Int)], [DV.int IntKind.i64 (9223372036854775807 : Int)], [DV.int IntKind.i64 (2 : Int)]])) else (0 : Int)) == e15.toI)
                       (cond (decide ((0 : Int) ≤ w))
                        (cond (decide (w < (8 : Int)))
                         (lookK ([[DV.bool false], [DV.bool false], [DV.bool true], [DV.bool true], [DV.bool true], [DV.bool true], [DV.bool true], [DV.bool false]][(0 : Nat) + w.toNat]?)
                          fun e21 =>
                           (lookK (e21[(0 : Nat)]?)
                            fun e23 =>
                             (cond ((DV.bool false).isK e23)
                              (cond (fitsB (sumZ (rows (DV.sl SK.ro (1 : Nat) [[DV.int IntKind.i64 (-9223372036854775808 : Int)], [DV.int IntKind.i64 (-9223372036854775808 : Int)], [DV.int IntKind.i64 (9223372036854775807 : Int)], [DV.int IntKind.i64 (9223372036854775807 : Int)], [DV.int IntKind.i64 (2 : Int)]]))) == e23.toB)
                               (need (trueS.D [])
                                (some (.bool true))
                               )
                               (some (.bool false))
                              )
                              none
                             )
                           )
                         )
                         none
                        )
                        none
                       )
                       (some (.bool false))
                      )
                      none
                     )
                   )
                 )
                 none
                )
                none
               )
              )
              (cond (((0 : Nat) + w.toNat - (1 : Nat) - (1 : Nat) - (1 : Nat) - (1 : Nat) - (1 : Nat) - (1 : Nat) - (1 : Nat)).beq (0 : Nat))
               (need (sumS.D [DV.sl SK.ro (1 : Nat) [[DV.int IntKind.i64 (4611686018427387904 : Int)], [DV.int IntKind.i64 (4611686018427387904 : Int)]]])
                (cond (decide ((0 : Int) ≤ w))
                 (cond (decide (w < (8 : Int)))
                  (lookK ([[DV.int IntKind.i64 (0 : Int)], [DV.int IntKind.i64 (0 : Int)], [DV.int IntKind.i64 (-2 : Int)], [DV.int IntKind.i64 (9223372036854775807 : Int)], [DV.int IntKind.i64 (-1 : Int)], [DV.int IntKind.i64 (0 : Int)], [DV.int IntKind.i64 (0 : Int)], [DV.int IntKind.i64 (0 : Int)]][(0 : Nat) + w.toNat]?)
                   fun e14 =>
                    (lookK (e14[(0 : Nat)]?)
                     fun e16 =>
                      (cond ((DV.int IntKind.i64 (0 : Int)).isK e16)
                       (cond ((bif fitsB (sumZ (rows (DV.sl SK.ro (1 : Nat) [[DV.int IntKind.i64 (4611686018427387904 : Int)], [DV.int IntKind.i64 (4611686018427387904 : Int)]]))) then sumZ (rows (DV.sl SK.ro (1 : Nat) [[DV.int IntKind.i64 (4611686018427387904 : Int)], [DV.int IntKind.i64 (4611686018427387904 : Int)]])) else (0 : Int)) == e16.toI)
                        (cond (decide ((0 : Int) ≤ w))
                         (cond (decide (w < (8 : Int)))
                          (lookK ([[DV.bool false], [DV.bool false], [DV.bool true], [DV.bool true], [DV.bool true], [DV.bool true], [DV.bool true], [DV.bool false]][(0 : Nat) + w.toNat]?)
                           fun e22 =>
                            (lookK (e22[(0 : Nat)]?)
                             fun e24 =>
                              (cond ((DV.bool false).isK e24)
                               (cond (fitsB (sumZ (rows (DV.sl SK.ro (1 : Nat) [[DV.int IntKind.i64 (4611686018427387904 : Int)], [DV.int IntKind.i64 (4611686018427387904 : Int)]]))) == e24.toB)
                                (need (trueS.D [])
                                 (some (.bool true))
                                )
                                (some (.bool false))
                               )
                               none
                              )
                            )
                          )
                          none
                         )
                         none
                        )
                        (some (.bool false))
                       )
                       none
                      )
                    )
                  )
                  none
                 )
                 none
                )
               )
               none
              )
             )
            )
           )
          )
         )
        )
       )
       none
      )
      none
     )
    ) := by kernel_rfl
theorem k60 (n : Nat) : FK tab sp6 lsp0 20 (n+8) 6 [.int .i64 0] =
    (need (sumS.D [DV.sl SK.ro (1 : Nat) [[DV.int IntKind.i64 (9223372036854775807 : Int)], [DV.int IntKind.i64 (1 : Int)]]])
     (need (trueS.D [])
      (some (.bool true))
     )
    ) := by kernel_rfl
theorem k61 (n : Nat) : FK tab sp6 lsp0 20 (n+8) 6 [.int .i64 1] =
    (need (sumS.D [DV.sl SK.ro (1 : Nat) [[DV.int IntKind.i64 (-9223372036854775808 : Int)], [DV.int IntKind.i64 (-1 : Int)]]])
     (need (trueS.D [])
      (some (.bool true))
     )
    ) := by kernel_rfl
theorem k62 (n : Nat) : FK tab sp6 lsp0 20 (n+8) 6 [.int .i64 2] =
    (need (sumS.D [DV.sl SK.ro (1 : Nat) [[DV.int IntKind.i64 (9223372036854775807 : Int)], [DV.int IntKind.i64 (9223372036854775807 : Int)], [DV.int IntKind.i64 (-9223372036854775808 : Int)], [DV.int IntKind.i64 (-9223372036854775808 : Int)]]])
     (need (trueS.D [])
      (some (.bool true))
     )
    ) := by kernel_rfl
theorem k63 (n : Nat) : FK tab sp6 lsp0 20 (n+8) 6 [.int .i64 3] =
    (need (sumS.D [DV.sl SK.ro (1 : Nat) [[DV.int IntKind.i64 (9223372036854775807 : Int)], [DV.int IntKind.i64 (1 : Int)], [DV.int IntKind.i64 (-1 : Int)]]])
     (need (trueS.D [])
      (some (.bool true))
     )
    ) := by kernel_rfl
theorem k64 (n : Nat) : FK tab sp6 lsp0 20 (n+8) 6 [.int .i64 4] =
    (need (sumS.D [DV.sl SK.ro (1 : Nat) [[DV.int IntKind.i64 (-9223372036854775808 : Int)], [DV.int IntKind.i64 (9223372036854775807 : Int)]]])
     (need (trueS.D [])
      (some (.bool true))
     )
    ) := by kernel_rfl
theorem k65 (n : Nat) : FK tab sp6 lsp0 20 (n+8) 6 [.int .i64 5] =
    (need (sumS.D [DV.sl SK.ro (1 : Nat) []])
     (need (trueS.D [])
      (some (.bool true))
     )
    ) := by kernel_rfl
theorem k66 (n : Nat) : FK tab sp6 lsp0 20 (n+8) 6 [.int .i64 6] =
    (need (sumS.D [DV.sl SK.ro (1 : Nat) [[DV.int IntKind.i64 (-9223372036854775808 : Int)], [DV.int IntKind.i64 (-9223372036854775808 : Int)], [DV.int IntKind.i64 (9223372036854775807 : Int)], [DV.int IntKind.i64 (9223372036854775807 : Int)], [DV.int IntKind.i64 (2 : Int)]]])
     (need (trueS.D [])
      (some (.bool true))
     )
    ) := by kernel_rfl
theorem k67 (n : Nat) : FK tab sp6 lsp0 20 (n+8) 6 [.int .i64 7] =
    (need (sumS.D [DV.sl SK.ro (1 : Nat) [[DV.int IntKind.i64 (4611686018427387904 : Int)], [DV.int IntKind.i64 (4611686018427387904 : Int)]]])
     (need (trueS.D [])
      (some (.bool true))
     )
    ) := by kernel_rfl
def okL (es : List (List DV)) : Bool := es.all (fun e => okRow z1 e && decide (-9223372036854775808 ≤ cel e ∧ cel e ≤ 9223372036854775807)) && decide (es.length ≤ 100)
theorem sumD_of {es : List (List DV)} (h : okL es = true) : sumS.D [.sl .ro 1 es] := by
  simp only [okL, Bool.and_eq_true, List.all_eq_true, decide_eq_true_eq] at h
  exact ⟨_, rfl, .inr ⟨.ro, es, rfl, fun e he => (h.1 e he).1, by omega⟩, fun e he => (h.1 e he).2⟩
theorem runsS (xs : List DV) (h : KVs kinds xs) : Ent Try.prog 6 xs (.bool true) := by
  simp only [kinds, KVs, KV, KC] at h
  obtain ⟨x, xs', rfl, ⟨w, hx, w1⟩, rfl⟩ := h
  cases hx
  by_cases h0 : w = 0
  · subst h0
    exact of_FK tab_ok sp6_ok (L := 20) (n := 0 + 8) ((k60 0).trans ((need_pos (sumD_of (by kernel_rfl))).trans (need_pos rfl)))
  by_cases h1 : w = 1
  · subst h1
    exact of_FK tab_ok sp6_ok (L := 20) (n := 0 + 8) ((k61 0).trans ((need_pos (sumD_of (by kernel_rfl))).trans (need_pos rfl)))
  by_cases h2 : w = 2
  · subst h2
    exact of_FK tab_ok sp6_ok (L := 20) (n := 0 + 8) ((k62 0).trans ((need_pos (sumD_of (by kernel_rfl))).trans (need_pos rfl)))
  by_cases h3 : w = 3
  · subst h3
    exact of_FK tab_ok sp6_ok (L := 20) (n := 0 + 8) ((k63 0).trans ((need_pos (sumD_of (by kernel_rfl))).trans (need_pos rfl)))
  by_cases h4 : w = 4
  · subst h4
    exact of_FK tab_ok sp6_ok (L := 20) (n := 0 + 8) ((k64 0).trans ((need_pos (sumD_of (by kernel_rfl))).trans (need_pos rfl)))
  by_cases h5 : w = 5
  · subst h5
    exact of_FK tab_ok sp6_ok (L := 20) (n := 0 + 8) ((k65 0).trans ((need_pos (sumD_of (by kernel_rfl))).trans (need_pos rfl)))
  by_cases h6 : w = 6
  · subst h6
    exact of_FK tab_ok sp6_ok (L := 20) (n := 0 + 8) ((k66 0).trans ((need_pos (sumD_of (by kernel_rfl))).trans (need_pos rfl)))
  by_cases h7 : w = 7
  · subst h7
    exact of_FK tab_ok sp6_ok (L := 20) (n := 0 + 8) ((k67 0).trans ((need_pos (sumD_of (by kernel_rfl))).trans (need_pos rfl)))
  refine of_FK tab_ok sp6_ok (L := 20) (n := 0 + 8) ((k6 0 w).trans ?_)
  refine cond_of (fun _ => rfl) (fun h => ?_)
  exfalso
  simp at h
  omega

set_option maxRecDepth 100000 in
theorem lifted (os : Os) (started : os.Started) (H : Type) (enc : TypeId × Value → H) :
    ReturnsInHanded {} Try.checked os 6 .any (Rows.cashKnownSpec.pre6 enc Try.prog Try.f6 Rows.cashKnownRow.domain false) (Rows.cashKnownSpec.post enc Try.prog Try.f6 false true false false) := by
  refine returnsInHanded_of_change (C := Try.checked) own started (by kernel_rfl) Try.func6
    (ChangeSpec.witness6 (enc := enc) (C := Try.checked) false ⟨#[], #[.int .i64 0], []⟩ 8 (by kernel_rfl) (by kernel_rfl) (by kernel_rfl) (by kernel_rfl)) ?_
  intro W base args ds gs before hval0 hW hcnd _
  exact law_contract (H := H) (enc := enc) (s := Rows.cashKnownSpec) (fn := Try.f6) (by kernel_rfl) rfl (n := 8) (Ks := kinds) (by kernel_rfl) (by kernel_rfl) (rt := 4) (by kernel_rfl) (by kernel_rfl)
    (fun ds h => by
      have h' : ds.length = 1 := h
      obtain ⟨d0, rfl⟩ := len1 h'
      exact ⟨rfl, rfl, rfl⟩) runsS W base args ds gs before hval0 hW

theorem over : Rows.cashKnownRow.holds Try.pinned (OpenSpec.ofChange Rows.cashKnownSpec) :=
  OpenClaim.holds_of_wide 6 Try.f6 rfl rfl rfl rfl rfl rfl rfl ⟨rfl, rfl, rfl, rfl, rfl⟩ rfl rfl rfl rfl rfl (by kernel_rfl) Try.func6 (by kernel_rfl)
    (of_decide_eq_true (by kernel_rfl)) (by unfold Func.isWrapper; first | (rw [if_pos (by decide +kernel)]; kernel_rfl) | (rw [if_neg (by decide +kernel)]; exact ⟨rfl, rfl⟩))
    (fun os started H enc _ => lifted os started H enc)

/-- ████ THE STATEMENT ████ -/
theorem proved : Rows.CashKnownSaid :=
  over
#print axioms proved
end Go.Proofs.Ytianifckopijjaa.cashKnown
