/- Of each so many as are asked; both laws' runs. No condition. -/
import Derived.Test.YtjejjokdbbedlaaVq
namespace Go.Proofs.Ytjejjokdbbedlaa
open Go Go.Proofs Go.RowKit Vm
set_option linter.unusedVariables false
set_option linter.unusedSimpArgs false
noncomputable def spH4 : FuncId → Option FSpec := spAdd 7 rowS (spAdd 14 (hdS hdB) (spAdd 9 (fltS 31) (spAdd 15 samP (spAdd 13 knoS noSp))))
def T40 (M r h : List (List DV)) (i : Int) : St := St.of [(1, .d (.sla false 1 M)), (5, .d (.sla false 7 r)), (6, .d (.sla false 7 h)), (7, .d (.int .i64 i))] [(24, none), (27, none)]
def m40 : LSpec := fun st => match st.env 5 with
  | .d (.sla _ _ r) => .one (.ex 0) (St.of [(5, .d (.sla false 7 r))] [(24, none)])
  | _ => .no
def lQ4 (k : Nat) : Option LSpec := if k = 40 then some m40 else none
theorem s40 (L n : Nat) (M r h : List (List DV)) (i : Nat) (k : Kont) : LB tab spH4 lQ4 L (n+4) h40 c4l0 (T40 M r h i) k =
   (bif decide ((↑i : Int) < (3 : Int)) then
 need ((fltS (31 : FuncId)).D [DV.sla false 7 r, DV.int .i64 (↑i : Int)])
 (need ((fltS (31 : FuncId)).D [DV.sla false 7 h, DV.int .i64 (↑i : Int)])
 (lookK M[i]? fun (e3 : List DV) =>
 bif okRow [DV.int .i64 0] e3 then
 bif
 (↑(List.filter (clB (31 : FuncId) (↑i : Int)) h).length : Int) !=
 if
 (↑(List.filter (clB (31 : FuncId) (↑i : Int)) r).length : Int) <
 if (0 : Int) > (cellA e3 0).toI then (0 : Int) else (cellA e3 0).toI then
 (↑(List.filter (clB (31 : FuncId) (↑i : Int)) r).length : Int)
 else if (0 : Int) > (cellA e3 0).toI then (0 : Int) else (cellA e3 0).toI then
 k Ex.ret (St.of [(4, AV.d (DV.bool false))] [(62, none), (70, none)])
 else
 bif decide ((List.filter (clB (31 : FuncId) (↑i : Int)) h).length ≤ (List.filter (clB (31 : FuncId) (↑i : Int)) r).length) then
 need
 (samP.D
 [DV.sla false 7 (List.filter (clB (31 : FuncId) (↑i : Int)) h),
 DV.sla false 7
 (List.take (List.filter (clB (31 : FuncId) (↑i : Int)) h).length (List.filter (clB (31 : FuncId) (↑i : Int)) r))])
 (bif
 !sameP (List.filter (clB (31 : FuncId) (↑i : Int)) h)
 (List.take (List.filter (clB (31 : FuncId) (↑i : Int)) h).length (List.filter (clB (31 : FuncId) (↑i : Int)) r)) then
 k Ex.ret (St.of [(4, AV.d (DV.bool false))] [(62, none), (70, none)])
 else
 k Ex.nrm
 (St.of
 [(1, AV.d (DV.sla false 1 M)), (5, AV.d (DV.sla false 7 r)),
 ((6 : Nat), AV.d (DV.sla false 7 h)), (7, AV.d (DV.int .i64 (IntKind.i64.wrap ((↑i : Int) + (1 : Int)))))]
 [(24, none), (27, none)]))
 else none
 else none))
 else k (Ex.ex (0 : Nat)) (St.of [(5, AV.d (DV.sla false 7 r))] [(24, none)])) :=
  (show LB tab spH4 lQ4 L (n+4) h40 c4l0 (T40 M r h i) k =
 (cond (decide ((↑i : Int) < (3 : Int)))
 (need (FSpec.D (fltS (31 : FuncId)) [(.sla false 7 r), (.int .i64 ((↑i : Int)))])
 (need (FSpec.D (fltS (31 : FuncId)) [(.sla false 7 h), (.int .i64 ((↑i : Int)))])
 (lookK (M[(↑i : Int).toNat]?)
 fun e3 =>
 (cond (okRow [DV.int .i64 0] e3)
 (cond ((↑(List.filter (clB (31 : FuncId) (↑i : Int)) (rowsA (DV.sla false 7 h))).length : Int) != if (↑(List.filter (clB (31 : FuncId) (↑i : Int)) (rowsA (DV.sla false 7 r))).length : Int) < if (0 : Int) > (cellA e3 0).toI then (0 : Int) else (cellA e3 0).toI then (↑(List.filter (clB (31 : FuncId) (↑i : Int)) (rowsA (DV.sla false 7 r))).length : Int) else if (0 : Int) > (cellA e3 0).toI then (0 : Int) else (cellA e3 0).toI)
 (k .ret (St.of [(4, (.d (.bool false)))] [(62, .none), (70, .none)]))
 (cond (decide ((some (↑(List.filter (clB (31 : FuncId) (↑i : Int)) (rowsA (DV.sla false 7 h))).length : Int)).getD (↑(List.filter (clB (31 : FuncId) (↑i : Int)) (rowsA (DV.sla false 7 r))).length : Int) ≤ (↑(List.filter (clB (31 : FuncId) (↑i : Int)) (rowsA (DV.sla false 7 r))).length : Int)))
 (need (FSpec.D (samP) [(.sla false 7 (List.filter (clB (31 : FuncId) (↑i : Int)) (rowsA (DV.sla false 7 h)))), (.sla false 7 (List.drop (none.getD (0 : Int)).toNat (List.take ((some (↑(List.filter (clB (31 : FuncId) (↑i : Int)) (rowsA (DV.sla false 7 h))).length : Int)).getD (↑(List.filter (clB (31 : FuncId) (↑i : Int)) (rowsA (DV.sla false 7 r))).length : Int)).toNat (List.filter (clB (31 : FuncId) (↑i : Int)) (rowsA (DV.sla false 7 r))))))])
 (cond (!sameP (rowsA (DV.sla false 7 (List.filter (clB (31 : FuncId) (↑i : Int)) (rowsA (DV.sla false 7 h))))) (rowsA (DV.sla false 7 (List.drop (none.getD (0 : Int)).toNat (List.take ((some (↑(List.filter (clB (31 : FuncId) (↑i : Int)) (rowsA (DV.sla false 7 h))).length : Int)).getD (↑(List.filter (clB (31 : FuncId) (↑i : Int)) (rowsA (DV.sla false 7 r))).length : Int)).toNat (List.filter (clB (31 : FuncId) (↑i : Int)) (rowsA (DV.sla false 7 r))))))))
 (k .ret (St.of [(4, (.d (.bool false)))] [(62, .none), (70, .none)]))
 (k .nrm (St.of [(1, (.d (.sla false 1 M))), (5, (.d (.sla false 7 r))), (6, (.d (.sla false 7 h))), (7, (.d (.int .i64 (IntKind.i64.wrap ((↑i : Int) + (1 : Int))))))] [(24, .none), (27, .none)]))))
 none))
 none))))
 (k (.ex 0) (St.of [(5, (.d (.sla false 7 r)))] [(24, .none)]))) from by kernel_rfl).trans (by first | rfl | (simp only [decide_true, decide_false, eq_self, and_true, true_and, and_self, cond_true, cond_false, Nat.le_refl, Int.le_refl, Option.getD_some, Option.getD_none, Int.toNat_natCast, List.take_length, List.drop_zero, Nat.zero_add, List.nil_append, List.all_nil, List.append_nil, Bool.true_and, Bool.and_true, rowsA_sla, rowsA_sl, rowsA_nil, minus_zero, nat_le_cast, nat_nonneg, Option.isSome_some, Option.isSome_none, Bool.false_eq_true, false_and, and_false, if_true, if_false, implies_true, Int.toNat_zero, Bool.not_false, Bool.not_true, bne_self_eq_false]; done) | (simp only [decide_true, decide_false, eq_self, and_true, true_and, and_self, cond_true, cond_false, Nat.le_refl, Int.le_refl, Option.getD_some, Option.getD_none, Int.toNat_natCast, List.take_length, List.drop_zero, Nat.zero_add, List.nil_append, List.all_nil, List.append_nil, Bool.true_and, Bool.and_true, rowsA_sla, rowsA_sl, rowsA_nil, minus_zero, nat_le_cast, nat_nonneg, Option.isSome_some, Option.isSome_none, Bool.false_eq_true, false_and, and_false, if_true, if_false, implies_true, Int.toNat_zero, Bool.not_false, Bool.not_true, bne_self_eq_false]; rfl))
theorem t4 (n : Nat) (l M : List (List DV)) : FK tab spH4 lQ4 20 (n+8) 4 [.sla false 7 l, .sla false 1 M] =
   (bif
 bif bif decide ((↑l.length : Int) > (40 : Int)) then true else decide ((↑M.length : Int) < (3 : Int)) then true
 else decide ((↑M.length : Int) > (6 : Int)) then
 some (DV.bool true)
 else
 need (rowS.D [DV.sla false 7 l])
 (need ((hdS hdB).D [DV.sla false 7 (rowL l), DV.sla false 1 M])
 (need
 (LoopOk (LB tab spH4 lQ4 (20 : Nat) (n + (8 : Nat)) h40 c4l0)
 (St.of
 [(1, AV.d (DV.sla false 1 M)), (5, AV.d (DV.sla false 7 (rowL l))),
 ((6 : Nat), AV.d (DV.sla false 7 (outN (rowL l).length (hdB M (rowL l)) (rowP (rowL l))))),
 ((7 : Nat), AV.d (DV.int .i64 0))]
 [(24, none), (27, none)])
 (Ex.ex (0 : Nat), St.of [(5, AV.d (DV.sla false 7 (rowL l)))] [(24, none)]))
 (need
 ((hdS hdB).D
 [DV.sla false 7 (rowL l),
 DV.sl SK.tight 1 [[DV.int .i64 99], [DV.int .i64 99], [DV.int .i64 99]]])
 (need
 (samP.D
 [DV.sla false 7
 (outN (rowL l).length (hdB [[DV.int .i64 99], [DV.int .i64 99], [DV.int .i64 99]] (rowL l))
 (rowP (rowL l))),
 DV.sla false 7 (rowL l)])
 (bif
 sameP
 (outN (rowL l).length (hdB [[DV.int .i64 99], [DV.int .i64 99], [DV.int .i64 99]] (rowL l))
 (rowP (rowL l)))
 (rowL l) then
 need ((hdS hdB).D [DV.sla false 7 (rowL l), DV.nilsl])
 (bif (↑(outN (rowL l).length (hdB [] (rowL l)) (rowP (rowL l))).length : Int) == (0 : Int) then need (knoS.D []) (some (DV.bool true))
 else some (DV.bool false))
 else some (DV.bool false))))))) :=
  (show FK tab spH4 lQ4 20 (n+8) 4 [.sla false 7 l, .sla false 1 M] =
 (cond (bif bif decide ((↑l.length : Int) > (40 : Int)) then true else decide ((↑M.length : Int) < (3 : Int)) then true else decide ((↑M.length : Int) > (6 : Int)))
 (some (.bool true))
 (need (FSpec.D (rowS) [(.sla false 7 l)])
 (need (FSpec.D (hdS hdB) [(.sla false 7 (rowL (rowsA (DV.sla false 7 l)))), (.sla false 1 M)])
 (need (LoopOk (LB tab spH4 lQ4 ((20 : Nat)) (n + (8 : Nat)) h40 c4l0) (St.of [(1, (.d (.sla false 1 M))), (5, (.d (.sla false 7 (rowL (rowsA (DV.sla false 7 l)))))), (6, (.d (.sla false 7 (outN (rowsA (DV.sla false 7 (rowL (rowsA (DV.sla false 7 l))))).length (hdB (rowsA (DV.sla false 1 M)) (rowsA (DV.sla false 7 (rowL (rowsA (DV.sla false 7 l)))))) (rowP (rowsA (DV.sla false 7 (rowL (rowsA (DV.sla false 7 l)))))))))), (7, (.d (.int .i64 ((0 : Int)))))] [(24, .none), (27, .none)]) ((.ex 0), (St.of [(5, (.d (.sla false 7 (rowL (rowsA (DV.sla false 7 l))))))] [(24, .none)])))
 (need (FSpec.D (hdS hdB) [(.sla false 7 (rowL (rowsA (DV.sla false 7 l)))), (.sl (SK.tight) 1 [[(.int .i64 ((99 : Int)))], [(.int .i64 ((99 : Int)))], [(.int .i64 ((99 : Int)))]])])
 (need (FSpec.D (samP) [(.sla false 7 (outN (rowsA (DV.sla false 7 (rowL (rowsA (DV.sla false 7 l))))).length (hdB (rowsA (DV.sl SK.tight 1 [[DV.int .i64 99], [DV.int .i64 99], [DV.int .i64 99]])) (rowsA (DV.sla false 7 (rowL (rowsA (DV.sla false 7 l)))))) (rowP (rowsA (DV.sla false 7 (rowL (rowsA (DV.sla false 7 l)))))))), (.sla false 7 (rowL (rowsA (DV.sla false 7 l))))])
 (cond (sameP (rowsA (DV.sla false 7 (outN (rowsA (DV.sla false 7 (rowL (rowsA (DV.sla false 7 l))))).length (hdB (rowsA (DV.sl SK.tight 1 [[DV.int .i64 99], [DV.int .i64 99], [DV.int .i64 99]])) (rowsA (DV.sla false 7 (rowL (rowsA (DV.sla false 7 l)))))) (rowP (rowsA (DV.sla false 7 (rowL (rowsA (DV.sla false 7 l))))))))) (rowsA (DV.sla false 7 (rowL (rowsA (DV.sla false 7 l))))))
 (need (FSpec.D (hdS hdB) [(.sla false 7 (rowL (rowsA (DV.sla false 7 l)))), .nilsl])
 (cond ((↑(outN (rowsA (DV.sla false 7 (rowL (rowsA (DV.sla false 7 l))))).length (hdB (rowsA DV.nilsl) (rowsA (DV.sla false 7 (rowL (rowsA (DV.sla false 7 l)))))) (rowP (rowsA (DV.sla false 7 (rowL (rowsA (DV.sla false 7 l))))))).length : Int) == (0 : Int))
 (need (FSpec.D (knoS) [])
 (some (.bool true)))
 (some (.bool false))))
 (some (.bool false))))))))) from by kernel_rfl).trans (by first | rfl | (simp only [decide_true, decide_false, eq_self, and_true, true_and, and_self, cond_true, cond_false, Nat.le_refl, Int.le_refl, Option.getD_some, Option.getD_none, Int.toNat_natCast, List.take_length, List.drop_zero, Nat.zero_add, List.nil_append, List.all_nil, List.append_nil, Bool.true_and, Bool.and_true, rowsA_sla, rowsA_sl, rowsA_nil, minus_zero, nat_le_cast, nat_nonneg, Option.isSome_some, Option.isSome_none, Bool.false_eq_true, false_and, and_false, if_true, if_false, implies_true, Int.toNat_zero, Bool.not_false, Bool.not_true, bne_self_eq_false]; done) | (simp only [decide_true, decide_false, eq_self, and_true, true_and, and_self, cond_true, cond_false, Nat.le_refl, Int.le_refl, Option.getD_some, Option.getD_none, Int.toNat_natCast, List.take_length, List.drop_zero, Nat.zero_add, List.nil_append, List.all_nil, List.append_nil, Bool.true_and, Bool.and_true, rowsA_sla, rowsA_sl, rowsA_nil, minus_zero, nat_le_cast, nat_nonneg, Option.isSome_some, Option.isSome_none, Bool.false_eq_true, false_and, and_false, if_true, if_false, implies_true, Int.toNat_zero, Bool.not_false, Bool.not_true, bne_self_eq_false]; rfl))
theorem spH4_ok : ∀ f s, spH4 f = some s → s.ok Try.prog f := spAdd_ok row7 (spAdd_ok heads14S (spAdd_ok of9 (spAdd_ok same27 (spAdd_ok known13 noSp_ok))))
theorem row_at {l : List (List DV)} (hz : ∀ e ∈ l, okRow z7 e = true) {n : Nat} (hn : n < l.length) : rowP l n = l[n] := by
  rw [rowP_at hn]
  obtain ⟨a0, a1, a2, a3, a4, a5, a6, he⟩ := okRow_p (hz _ (List.getElem_mem hn))
  rw [he]
  rfl
theorem take_snoc (F : List (List DV)) (e : List DV) (k : Nat) : (F ++ [e]).take k = F.take k ++ cond (decide (F.length < k)) [e] [] := by
  rw [List.take_append]
  by_cases h : F.length < k
  · rw [decide_eq_true h, cond_true]
    obtain ⟨m, hm⟩ : ∃ m, k - F.length = m + 1 := ⟨k - F.length - 1, by omega⟩
    rw [hm, show List.take (m + 1) [e] = [e] from by simp]
  · rw [decide_eq_false h, cond_false, show k - F.length = 0 by omega]
    rfl
/-- of each so many as are asked -/
theorem hfil {r M : List (List DV)} (hz : ∀ e ∈ r, okRow z7 e = true) {f : Int} (h0 : 0 ≤ f) (h1 : f < (M.length : Int)) : (outN r.length (hdB M r) (rowP r)).filter (clB 31 f) = (r.filter (clB 31 f)).take (cel (M[f.toNat]?.getD [])).toNat := by
  have key : ∀ n, n ≤ r.length → (outN n (hdB M r) (rowP r)).filter (clB 31 f) = ((r.take n).filter (clB 31 f)).take (cel (M[f.toNat]?.getD [])).toNat := by
    intro n
    induction n with
    | zero => intro _; simp [outN]
    | succ n ih =>
      intro hn
      have hlt : n < r.length := by omega
      have hcl : clB 31 f r[n] = (frm r[n] == f) := rfl
      rw [outN_succ, List.filter_append, ih (by omega), List.take_add_one, List.getElem?_eq_getElem hlt, Option.toList_some, List.filter_append, row_at hz hlt]
      by_cases hf : frm r[n] = f
      · have hp : clB 31 f r[n] = true := by rw [hcl, hf]; exact beq_self_eq_true _
        rw [show [r[n]].filter (clB 31 f) = [r[n]] by rw [List.filter_cons, if_pos hp]; rfl, take_snoc]
        congr 1
        have hb : hdB M r n = decide (((r.take n).filter (clB 31 f)).length < (cel (M[f.toNat]?.getD [])).toNat) := by
          unfold hdB
          rw [gd hlt, hf, decide_eq_true (show f ≥ 0 by omega), decide_eq_true h1]
          show decide (_ < _) = _
          exact decide_eq_decide.2 (by omega)
        rw [hb]
        cases decide (((r.take n).filter (clB 31 f)).length < (cel (M[f.toNat]?.getD [])).toNat) with
        | true => rw [cond_true, List.filter_cons, if_pos hp]; rfl
        | false => rfl
      · have hp : ¬ clB 31 f r[n] = true := by rw [hcl]; simp [hf]
        rw [show [r[n]].filter (clB 31 f) = [] by rw [List.filter_cons, if_neg hp]; rfl, List.append_nil]
        cases hdB M r n with
        | true => rw [cond_true, List.filter_cons, if_neg hp]; simp
        | false => rw [cond_false]; simp
  have := key r.length (Nat.le_refl _)
  rwa [List.take_length] at this
end Go.Proofs.Ytjejjokdbbedlaa
