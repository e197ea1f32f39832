/- MostEdge: the run of the statement. No condition. -/
import Derived.Test.YtakapalpcglfaaaMe
namespace Go.Proofs.Ytakapalpcglfaaa
open Go Go.Proofs Go.RowKit Vm
set_option linter.unusedVariables false
set_option linter.unusedSimpArgs false
noncomputable def spEd : FuncId → Option FSpec := spAdd 21 isS (spAdd 22 ofS (spAdd 25 fitS (spAdd 24 trueS noSp)))
theorem t8 (L n : Nat) (ac bs ms qs : List (List DV)) (f t c x : Int) : FK tab spEd ld L (n+8) 8 [.agg (bk ac bs ms qs), .int .i64 f, .int .i64 t, .int .i64 c, .int .i64 x] =
   (need (isS.D [DV.agg [DV.sla false 3 ac, DV.sla false 1 bs, DV.sla false 1 ms, DV.sla false 1 qs]])
 (bif !isBk ac bs ms qs then some (DV.bool true)
 else
 need
 (ofS.D
 [DV.agg [DV.sla false 3 ac, DV.sla false 1 bs, DV.sla false 1 ms, DV.sla false 1 qs], DV.int .i64 f, DV.int .i64 t, DV.int .i64 c])
 (bif bif decide (ofI ac bs ms qs f t c < (0 : Int)) then true else decide (ofI ac bs ms qs f t c > (1099511627776 : Int)) then
 some (DV.bool false)
 else
 need
 (fitS.D
 [DV.agg [DV.sla false 3 ac, DV.sla false 1 bs, DV.sla false 1 ms, DV.sla false 1 qs],
 DV.sl SK.tight 7
 [[DV.int .i64 1, DV.int .i64 f, DV.int .i64 t, DV.int .i64 1, DV.int .i64 c, DV.int .i64 0, DV.int .i64 0]]])
 (bif !decide (ofI ac bs ms qs f t c > (0 : Int)) == fitB ac bs ms qs f t (1 : Int) c then some (DV.bool false)
 else
 bif ofI ac bs ms qs f t c == (0 : Int) then need (trueS.D []) (some (DV.bool true))
 else
 need
 (fitS.D
 [DV.agg [DV.sla false 3 ac, DV.sla false 1 bs, DV.sla false 1 ms, DV.sla false 1 qs],
 DV.sl SK.tight 7
 [[DV.int .i64 1, DV.int .i64 f, DV.int .i64 t, DV.int .i64 (ofI ac bs ms qs f t c), DV.int .i64 c, DV.int .i64 0, DV.int .i64 0]]])
 (bif !fitB ac bs ms qs f t (ofI ac bs ms qs f t c) c then some (DV.bool false)
 else
 need
 (fitS.D
 [DV.agg [DV.sla false 3 ac, DV.sla false 1 bs, DV.sla false 1 ms, DV.sla false 1 qs],
 DV.sl SK.tight 7
 [[DV.int .i64 1, DV.int .i64 f, DV.int .i64 t, DV.int .i64 (IntKind.i64.wrap (ofI ac bs ms qs f t c + (1 : Int))), DV.int .i64 c, DV.int .i64 0, DV.int .i64 0]]])
 (bif fitB ac bs ms qs f t (IntKind.i64.wrap (ofI ac bs ms qs f t c + (1 : Int))) c then some (DV.bool false)
 else
 bif decide (ofI ac bs ms qs f t c = (0 : Int)) then none
 else
 need
 (fitS.D
 [DV.agg [DV.sla false 3 ac, DV.sla false 1 bs, DV.sla false 1 ms, DV.sla false 1 qs],
 DV.sl SK.tight 7
 [[DV.int .i64 1, DV.int .i64 f, DV.int .i64 t, DV.int .i64
 (IntKind.i64.wrap
 ((1 : Int) +
 (IntKind.i64.wrap
 (↑(BitVec.ofInt IntKind.i64.bits x &&& BitVec.ofInt IntKind.i64.bits (1099511627775 : Int)).toNat : Int)).tmod
 (ofI ac bs ms qs f t c))), DV.int .i64 c, DV.int .i64 0, DV.int .i64 0]]])
 (bif
 fitB ac bs ms qs f t
 (IntKind.i64.wrap
 ((1 : Int) +
 (IntKind.i64.wrap
 (↑(BitVec.ofInt IntKind.i64.bits x &&& BitVec.ofInt IntKind.i64.bits (1099511627775 : Int)).toNat : Int)).tmod
 (ofI ac bs ms qs f t c)))
 c then
 need (trueS.D []) (some (DV.bool true))
 else some (DV.bool false)))))))) :=
  (show FK tab spEd ld L (n+8) 8 [.agg (bk ac bs ms qs), .int .i64 f, .int .i64 t, .int .i64 c, .int .i64 x] =
 (need (FSpec.D (isS) [(.agg [(.sla false 3 ac), (.sla false 1 bs), (.sla false 1 ms), (.sla false 1 qs)])])
 (cond (!isBk ac bs ms qs)
 (some (.bool true))
 (need (FSpec.D (ofS) [(.agg [(.sla false 3 ac), (.sla false 1 bs), (.sla false 1 ms), (.sla false 1 qs)]), (.int .i64 f), (.int .i64 t), (.int .i64 c)])
 (cond (bif decide (ofI ac bs ms qs f t c < (0 : Int)) then true else decide (ofI ac bs ms qs f t c > (1099511627776 : Int)))
 (some (.bool false))
 (need (FSpec.D (fitS) [(.agg [(.sla false 3 ac), (.sla false 1 bs), (.sla false 1 ms), (.sla false 1 qs)]), (.sl (SK.tight) 7 [[(.int .i64 ((1 : Int))), (.int .i64 f), (.int .i64 t), (.int .i64 ((1 : Int))), (.int .i64 c), (.int .i64 ((0 : Int))), (.int .i64 ((0 : Int)))]])])
 (cond (!decide (ofI ac bs ms qs f t c > (0 : Int)) == fitB ac bs ms qs f t (1 : Int) c)
 (some (.bool false))
 (cond (ofI ac bs ms qs f t c == (0 : Int))
 (need (FSpec.D (trueS) [])
 (some (.bool true)))
 (need (FSpec.D (fitS) [(.agg [(.sla false 3 ac), (.sla false 1 bs), (.sla false 1 ms), (.sla false 1 qs)]), (.sl (SK.tight) 7 [[(.int .i64 ((1 : Int))), (.int .i64 f), (.int .i64 t), (.int .i64 (ofI ac bs ms qs f t c)), (.int .i64 c), (.int .i64 ((0 : Int))), (.int .i64 ((0 : Int)))]])])
 (cond (!fitB ac bs ms qs f t (ofI ac bs ms qs f t c) c)
 (some (.bool false))
 (need (FSpec.D (fitS) [(.agg [(.sla false 3 ac), (.sla false 1 bs), (.sla false 1 ms), (.sla false 1 qs)]), (.sl (SK.tight) 7 [[(.int .i64 ((1 : Int))), (.int .i64 f), (.int .i64 t), (.int .i64 (IntKind.i64.wrap (ofI ac bs ms qs f t c + (1 : Int)))), (.int .i64 c), (.int .i64 ((0 : Int))), (.int .i64 ((0 : Int)))]])])
 (cond (fitB ac bs ms qs f t (IntKind.i64.wrap (ofI ac bs ms qs f t c + (1 : Int))) c)
 (some (.bool false))
 (cond (decide (ofI ac bs ms qs f t c = (0 : Int)))
 none
 (need (FSpec.D (fitS) [(.agg [(.sla false 3 ac), (.sla false 1 bs), (.sla false 1 ms), (.sla false 1 qs)]), (.sl (SK.tight) 7 [[(.int .i64 ((1 : Int))), (.int .i64 f), (.int .i64 t), (.int .i64 (IntKind.i64.wrap ((1 : Int) + (IntKind.i64.wrap (↑(BitVec.ofInt IntKind.i64.bits x &&& BitVec.ofInt IntKind.i64.bits (1099511627775 : Int)).toNat : Int)).tmod (ofI ac bs ms qs f t c)))), (.int .i64 c), (.int .i64 ((0 : Int))), (.int .i64 ((0 : Int)))]])])
 (cond (fitB ac bs ms qs f t (IntKind.i64.wrap ((1 : Int) + (IntKind.i64.wrap (↑(BitVec.ofInt IntKind.i64.bits x &&& BitVec.ofInt IntKind.i64.bits (1099511627775 : Int)).toNat : Int)).tmod (ofI ac bs ms qs f t c))) c)
 (need (FSpec.D (trueS) [])
 (some (.bool true)))
 (some (.bool false)))))))))))))))) from by kernel_rfl).trans (by first | rfl | (simp only [decide_true, decide_false, eq_self, and_true, true_and, and_self, cond_true, cond_false, Nat.le_refl, Int.le_refl, Option.getD_some, Option.getD_none, Int.toNat_natCast, List.take_length, List.drop_zero, Nat.zero_add, List.nil_append, List.all_nil, List.append_nil, Bool.true_and, Bool.and_true, rowsA_sla, rowsA_sl, rowsA_nil, minus_zero, nat_le_cast, nat_nonneg, Option.isSome_some, Option.isSome_none, Bool.false_eq_true, false_and, and_false, if_true, if_false, implies_true, Int.toNat_zero, Bool.not_false, Bool.not_true, bne_self_eq_false]; done) | (simp only [decide_true, decide_false, eq_self, and_true, true_and, and_self, cond_true, cond_false, Nat.le_refl, Int.le_refl, Option.getD_some, Option.getD_none, Int.toNat_natCast, List.take_length, List.drop_zero, Nat.zero_add, List.nil_append, List.all_nil, List.append_nil, Bool.true_and, Bool.and_true, rowsA_sla, rowsA_sl, rowsA_nil, minus_zero, nat_le_cast, nat_nonneg, Option.isSome_some, Option.isSome_none, Bool.false_eq_true, false_and, and_false, if_true, if_false, implies_true, Int.toNat_zero, Bool.not_false, Bool.not_true, bne_self_eq_false]; rfl))
theorem of_cases {ac bs ms qs : List (List DV)} (hB : BK ac bs ms qs) (f t c : Int) :
    (fitB ac bs ms qs f t 1 c = false ∧ ofI ac bs ms qs f t c = 0) ∨
    (fitB ac bs ms qs f t 1 c = true ∧ 1 ≤ ofI ac bs ms qs f t c ∧ ofI ac bs ms qs f t c ≤ 1099511627776 ∧ ∀ a, 1 ≤ a → fitB ac bs ms qs f t a c = decide (a ≤ ofI ac bs ms qs f t c)) := by
  cases hfit : fitB ac bs ms qs f t 1 c with
  | false =>
    left
    refine ⟨rfl, ?_⟩
    unfold ofI
    rw [hfit]
    rfl
  | true =>
    right
    have hm := (Bool.and_eq_true_iff.1 hfit).1
    have hs := (Bool.and_eq_true_iff.1 hfit).2
    obtain ⟨f', rfl⟩ : ∃ f' : Nat, f = (f' : Int) := ⟨f.toNat, by have := mayB_iff.1 hm; omega⟩
    obtain ⟨t', rfl⟩ : ∃ t' : Nat, t = (t' : Int) := ⟨t.toNat, by have := mayB_iff.1 hm; omega⟩
    have hf : f' < ac.length := by have := mayB_iff.1 hm; omega
    rw [Int.toNat_natCast, Int.toNat_natCast, sh_top hB hf] at hs
    have h1 : 1 ≤ topU ac bs ms qs f' t' c := by simpa using hs
    have e : ofI ac bs ms qs ((f' : Nat) : Int) ((t' : Nat) : Int) c = topT ac bs ms qs f' t' c := by
      unfold ofI
      rw [hfit, Int.toNat_natCast, Int.toNat_natCast]
      rfl
    rw [e]
    refine ⟨rfl, by unfold topT; omega, by unfold topT; omega, fun a ha => ?_⟩
    unfold fitB
    rw [Int.toNat_natCast, Int.toNat_natCast, sh_top hB hf]
    by_cases hle : a ≤ 1099511627776
    · rw [may_one hm ha hle, Bool.true_and, ← decide_not]
      refine decide_eq_decide.2 ?_
      unfold topT
      omega
    · have : mayB ac.length ((f' : Nat) : Int) ((t' : Nat) : Int) a c = false := by
        rw [Bool.eq_false_iff]
        intro h
        have := mayB_iff.1 h
        omega
      rw [this, Bool.false_and, decide_eq_false (by unfold topT; omega)]
theorem spEd_ok : ∀ f s, spEd f = some s → s.ok Try.prog f := spAdd_ok is21 (spAdd_ok most22 (spAdd_ok fit25 (spAdd_ok known24 noSp_ok)))
end Go.Proofs.Ytakapalpcglfaaa
