/- What is known of the pool's Set, of the reference's Same on one list, and of PoolOwn's loop, by their runs. No condition. -/
import Derived.Test.YtianifckopijjaaSc
namespace Go.Proofs.Ytianifckopijjaa
open Go Go.Proofs Go.RowKit Vm
set_option linter.unusedVariables false
set_option linter.unusedSimpArgs false
def S110 (es x : List (List DV)) (i v j : Int) : St := St.of [(0, .d (.sl .ro 1 es)), (1, .d (.int .i64 i)), (2, .d (.int .i64 v)), (8, .aref 20 1 0 x.length), (9, .d (.int .i64 j))] [(20, some (.dat 2 1 x))]
def setL (es : List (List DV)) (i v : Int) : List (List DV) := cond (decide (0 ≤ i ∧ i < es.length)) (es.set i.toNat [.int .i64 v]) es
def setS : FSpec where
  D ds := ∃ q es i v, ds = [.sl q 1 es, .int .i64 i, .int .i64 v] ∧ (∀ e ∈ es, okRow z1 e = true) ∧ es.length ≤ 1000
  val ds := match ds with
    | [.sl _ _ es, .int _ i, .int _ v] => some (.sl (.own 2) 1 (setL es i v))
    | _ => none
def samS : FSpec where
  D ds := (∃ q q2 es, ds = [.sl q 1 es, .sl q2 1 es] ∧ (∀ e ∈ es, okRow z1 e = true) ∧ es.length ≤ 1000) ∨ ∃ q, ds = [.sl q 1 [], .nilsl]
  val ds := some (.bool true)
noncomputable def sp8 : FuncId → Option FSpec := spAdd 27 trueS (spAdd 25 setS (spAdd 24 samS noSp))
def S240 (q q2 : SK) (es es2 : List (List DV)) (i : Int) : St := St.of [(0, .d (.sl q 1 es)), (1, .d (.sl q2 1 es2)), (5, .d (.int .i64 i))] []
def S110n (i v : Int) : St := St.of [(0, .d .nilsl), (1, .d (.int .i64 i)), (2, .d (.int .i64 v)), (8, .aref 20 1 0 0), (9, .d (.int .i64 0))] [(20, some (.dat 2 1 []))]
def S240n (q : SK) : St := St.of [(0, .d (.sl q 1 [])), (1, .d .nilsl), (5, .d (.int .i64 0))] []
def lOne : LSpec := fun st => .one (.ex 0) (St.of [] [])
def lsp5 (k : Nat) : Option LSpec := if k = 110 then some lOne else if k = 240 then some lOne else none
theorem t25 (L n : Nat) (q : SK) (es : List (List DV)) (i v : Int) : FK tab noSp lsp0 20 (n+8) 25 [.sl q 1 es, .int .i64 i, .int .i64 v] =
    (cond (decide (es.length = (0 : Nat)))
     (cond (bif decide (i ≥ (0 : Int)) then decide (i < (0 : Int)) else false)
      (cond (decide ((0 : Int) ≤ i))
       (cond (decide (i < (0 : Int)))
        none
        none
       )
       none
      )
      (some (.sl (SK.own (2 : Nat)) 1 []))
     )
     (cond (es.all fun e => e.length == (1 : Nat) && e.all DV.one)
      (cond (decide ((2 : Nat) = (2 : Nat) ∧ (1 : Nat) = (1 : Nat) ∧ (1 : Nat) = (1 : Nat) ∧ (0 : Nat) = (0 : Nat) ∧ (0 : Nat) = (0 : Nat) ∧ es.length * (8 : Nat) ≤ room ∧ es.length ≤ room))
       (cond (decide (es.length = es.length))
        (cond (bif decide (i ≥ (0 : Int)) then decide (i < (↑es.length : Int)) else false)
         (cond (decide ((0 : Int) ≤ i))
          (cond (decide (i < (↑es.length : Int)))
           (lookK (es[(0 : Nat) + i.toNat]?)
            fun e7 =>
             (cond (decide ((1 : Nat) ≤ e7.length))
              (cond (decide (es.length = (es.set ((0 : Nat) + i.toNat) (DV.int IntKind.i64 v :: List.drop (1 : Nat) e7)).length))
               (some (.sl (SK.own (2 : Nat)) 1 (es.set ((0 : Nat) + i.toNat) (DV.int IntKind.i64 v :: List.drop (1 : Nat) e7))))
               (cond (decide ((0 : Nat) + es.length ≤ (es.set ((0 : Nat) + i.toNat) (DV.int IntKind.i64 v :: List.drop (1 : Nat) e7)).length))
                (some (.sl (SK.ro) 1 (List.take es.length (es.set ((0 : Nat) + i.toNat) (DV.int IntKind.i64 v :: List.drop (1 : Nat) e7)))))
                none
               )
              )
              none
             )
           )
           none
          )
          none
         )
         (cond (decide (es.length = es.length))
          (some (.sl (SK.own (2 : Nat)) 1 es))
          (cond (decide ((0 : Nat) + es.length ≤ es.length))
           (some (.sl (SK.ro) 1 (List.take es.length es)))
           none
          )
         )
        )
        (cond (decide ((0 : Nat) + es.length ≤ es.length))
         (cond (bif decide (i ≥ (0 : Int)) then decide (i < (↑(List.take es.length es).length : Int)) else false)
          (cond (decide ((0 : Int) ≤ i))
           (lookK ((List.take es.length es)[i.toNat]?)
            fun e7 =>
             (cond (okRow [DV.int IntKind.i64 (0 : Int)] e7)
              none
              none
             )
           )
           none
          )
          (some (.sl (SK.ro) 1 (List.take es.length es)))
         )
         none
        )
       )
       none
      )
      none
     )
    ) := by kernel_rfl
theorem s110 (L n : Nat) (es x : List (List DV)) (i v : Int) (j : Nat) (k : Kont) : LB tab sp8 lsp5 L (n+4) h110 c11l0 (S110 es x i v j) k =
    (cond (decide ((↑j : Int) < (↑x.length : Int)))
     (lookK (es[(↑j : Int).toNat]?)
      fun e1 =>
       (cond (okRow [DV.int IntKind.i64 (0 : Int)] e1)
        (cond ((↑j : Int) == i)
         (cond (decide ((↑j : Int) < (↑x.length : Int)))
          (lookK (x[(0 : Nat) + (↑j : Int).toNat]?)
           fun e6 =>
            (lookK (e6[(0 : Nat)]?)
             fun e8 =>
              (cond ((DV.int IntKind.i64 (0 : Int)).isK e8)
               (cond (e8.toI != v)
                (k .ret (St.of [(6, (.d (.bool false)))] [(52, .none)]))
                (k .nrm (St.of [(0, (.d (.sl (SK.ro) 1 es))), (1, (.d (.int .i64 i))), (2, (.d (.int .i64 v))), (8, (.aref 20 1 0 (x.length))), (9, (.d (.int .i64 (IntKind.i64.wrap ((↑j : Int) + (1 : Int))))))] [(20, (.some (.dat 2 1 x)))]))
               )
               none
              )
            )
          )
          none
         )
         (cond (decide ((↑j : Int) < (↑x.length : Int)))
          (lookK (x[(0 : Nat) + (↑j : Int).toNat]?)
           fun e6 =>
            (lookK (e6[(0 : Nat)]?)
             fun e8 =>
              (cond ((DV.int IntKind.i64 (0 : Int)).isK e8)
               (cond (e8.toI != (cellA e1 (0 : Nat)).toI)
                (k .ret (St.of [(6, (.d (.bool false)))] [(52, .none)]))
                (k .nrm (St.of [(0, (.d (.sl (SK.ro) 1 es))), (1, (.d (.int .i64 i))), (2, (.d (.int .i64 v))), (8, (.aref 20 1 0 (x.length))), (9, (.d (.int .i64 (IntKind.i64.wrap ((↑j : Int) + (1 : Int))))))] [(20, (.some (.dat 2 1 x)))]))
               )
               none
              )
            )
          )
          none
         )
        )
        none
       )
     )
     (k (.ex 0) (St.of [] []))
    ) := by kernel_rfl
theorem s240 (L n : Nat) (q q2 : SK) (es es2 : List (List DV)) (i : Nat) (k : Kont) : LB tab noSp lsp5 L (n+4) h240 c24l0 (S240 q q2 es es2 i) k =
    (cond (decide ((↑i : Int) < (↑es.length : Int)))
     (lookK (es[(↑i : Int).toNat]?)
      fun e1 =>
       (cond (okRow [DV.int IntKind.i64 (0 : Int)] e1)
        (lookK (es2[(↑i : Int).toNat]?)
         fun e4 =>
          (cond (okRow [DV.int IntKind.i64 (0 : Int)] e4)
           (cond ((cellA e1 (0 : Nat)).toI != (cellA e4 (0 : Nat)).toI)
            (k .ret (St.of [(4, (.d (.bool false)))] []))
            (k .nrm (St.of [(0, (.d (.sl q 1 es))), (1, (.d (.sl q2 1 es2))), (5, (.d (.int .i64 (IntKind.i64.wrap ((↑i : Int) + (1 : Int))))))] []))
           )
           none
          )
        )
        none
       )
     )
     (k (.ex 0) (St.of [] []))
    ) := by kernel_rfl
theorem s110n (L n : Nat) (i v : Int) (k : Kont) : LB tab sp8 lsp5 L (n+4) h110 c11l0 (S110n i v) k =
    (k (.ex 0) (St.of [] [])) := by kernel_rfl
theorem s240n (L n : Nat) (q : SK) (k : Kont) : LB tab noSp lsp5 L (n+4) h240 c24l0 (S240n q) k =
    (k (.ex 0) (St.of [] [])) := by kernel_rfl
theorem t24n (L n : Nat) (q : SK) : FK tab noSp lsp5 L (n+6) 24 [.sl q 1 [], .nilsl] =
    (need (LoopOk (LB tab noSp lsp5 L (n + (6 : Nat)) h240 c24l0) (St.of [(0, (.d (.sl q 1 []))), (1, (.d .nilsl)), (5, (.d (.int .i64 ((0 : Int)))))] []) ((.ex 0), (St.of [] [])))
     (some (.bool true))
    ) := by kernel_rfl
theorem t24 (L n : Nat) (q q2 : SK) (es es2 : List (List DV)) : FK tab noSp lsp5 L (n+6) 24 [.sl q 1 es, .sl q2 1 es2] =
    (cond ((↑es.length : Int) != (↑es2.length : Int))
     (some (.bool false))
     (need (LoopOk (LB tab noSp lsp5 L (n + (6 : Nat)) h240 c24l0) (St.of [(0, (.d (.sl q 1 es))), (1, (.d (.sl q2 1 es2))), (5, (.d (.int .i64 ((0 : Int)))))] []) ((.ex 0), (St.of [] [])))
      (some (.bool true))
     )
    ) := by kernel_rfl
theorem okRow_form {e : List DV} (h : okRow z1 e = true) : ∃ n, e = [.int .i64 n] := by
  match e, h with
  | [], h => simp [okRow] at h
  | [c], h =>
    cases c <;> simp [okRow, kindsOk, DV.isK] at h
    subst h
    exact ⟨_, rfl⟩
  | a :: b :: l, h => simp [okRow] at h
theorem allOne {es : List (List DV)} (h : ∀ e ∈ es, okRow z1 e = true) : (es.all fun e => e.length == 1 && e.all DV.one) = true := by
  rw [List.all_eq_true]
  intro e he
  obtain ⟨n, rfl⟩ := okRow_form (h e he)
  rfl
theorem setL_length (es : List (List DV)) (i v : Int) : (setL es i v).length = es.length := by
  unfold setL
  cases decide (0 ≤ i ∧ i < es.length) <;> simp
theorem setL_rows {es : List (List DV)} (h : ∀ e ∈ es, okRow z1 e = true) (i v : Int) : ∀ e ∈ setL es i v, okRow z1 e = true := by
  unfold setL
  cases decide (0 ≤ i ∧ i < es.length) with
  | false => exact h
  | true =>
    intro e he
    rcases List.mem_or_eq_of_mem_set he with he | rfl
    · exact h e he
    · rfl
theorem set25 : setS.ok Try.prog 25 := fspec_ok (lsp := lsp0) tab_ok noSp_ok fun ds hD => by
  obtain ⟨q, es, i, v, rfl, hz, hl⟩ := hD
  refine ⟨20, 0 + 8, (t25 0 0 q es i v).trans ?_⟩
  show _ = some (DV.sl (.own 2) 1 (setL es i v))
  cases hn : decide (es.length = 0) with
  | true =>
    have he : es = [] := List.eq_nil_of_length_eq_zero (of_decide_eq_true hn)
    subst he
    have h1 : (bif decide (i ≥ 0) then decide (i < 0) else false) = false := by
      rw [Bool.eq_false_iff]
      intro h
      simp at h
      omega
    have h2 : setL [] i v = [] := by
      unfold setL
      rw [decide_eq_false (by simp)]
      rfl
    simp only [cond_true, h1, cond_false, h2]
  | false =>
    have hroom : decide ((2 : Nat) = (2 : Nat) ∧ (1 : Nat) = (1 : Nat) ∧ (1 : Nat) = (1 : Nat) ∧ (0 : Nat) = (0 : Nat) ∧ (0 : Nat) = (0 : Nat) ∧ es.length * (8 : Nat) ≤ room ∧ es.length ≤ room) = true :=
      decide_eq_true ⟨rfl, rfl, rfl, rfl, rfl, by unfold room; omega, by unfold room; omega⟩
    rw [allOne hz, hroom, decide_eq_true (rfl : es.length = es.length)]
    by_cases hr : 0 ≤ i ∧ i < es.length
    · have h1 : (bif decide (i ≥ 0) then decide (i < (es.length : Int)) else false) = true := by
        simp
        omega
      have hlt : i.toNat < es.length := by omega
      have hidx : es[(0 : Nat) + i.toNat]? = some es[i.toNat] := by
        rw [Nat.zero_add]
        exact List.getElem?_eq_getElem hlt
      obtain ⟨m, hm⟩ := okRow_form (hz es[i.toNat] (List.getElem_mem hlt))
      rw [h1, decide_eq_true hr.1, decide_eq_true hr.2, hidx, hm, Nat.zero_add]
      simp only [cond_true, cond_false, lookK_some, List.length_singleton, Nat.le_refl, decide_true, List.drop_succ_cons, List.drop_nil, List.length_set]
      simp only [setL, decide_eq_true hr, cond_true]
    · have h1 : (bif decide (i ≥ 0) then decide (i < (es.length : Int)) else false) = false := by
        rw [Bool.eq_false_iff]
        intro h
        simp at h
        omega
      rw [h1]
      simp only [cond_true, cond_false, setL, decide_eq_false hr]
theorem loop240 (L n : Nat) (q q2 : SK) (es : List (List DV)) (hz : ∀ e ∈ es, okRow z1 e = true) (hl : es.length ≤ 1000) : LoopOk (LB tab noSp lsp5 L (n+4) h240 c24l0) (S240 q q2 es es 0) (.ex 0, St.of [] []) := by
  have key := loop_rounds (f := LB tab noSp lsp5 L (n+4) h240 c24l0) (fun i => S240 q q2 es es (i : Nat)) (fun _ => (.ex 0, St.of [] [])) es.length
    (fun i hi => by
      refine .inl ⟨fun k => ?_, rfl⟩
      have he : es[i]? = some es[i] := List.getElem?_eq_getElem hi
      have hw : IntKind.i64.wrap ((i : Int) + 1) = ((i + 1 : Nat) : Int) := by rw [wrap_fits] <;> omega
      have hzi := hz es[i] (List.getElem_mem hi)
      have hlt : ((i : Int) < (es.length : Int)) := by omega
      rw [s240]
      simp only [Int.toNat_natCast, he, lookK_some, hzi, cond_true, hlt, decide_true, hw, bne_self_eq_false, cond_false]
      rfl)
    (by
      refine ⟨by simp, fun k => ?_⟩
      rw [s240]
      simp only [Int.lt_irrefl, decide_false, cond_false])
  exact key 0 (Nat.zero_le _)
theorem loop240n (L n : Nat) (q : SK) : LoopOk (LB tab noSp lsp5 L (n+4) h240 c24l0) (S240n q) (.ex 0, St.of [] []) :=
  loop_one (by simp) fun k => s240n L n q k
theorem loop110n (L n : Nat) (i v : Int) : LoopOk (LB tab sp8 lsp5 L (n+4) h110 c11l0) (S110n i v) (.ex 0, St.of [] []) :=
  loop_one (by simp) fun k => s110n L n i v k
theorem same24 : samS.ok Try.prog 24 := fspec_ok (lsp := lsp5) tab_ok noSp_ok fun ds hD => by
  rcases hD with ⟨q, q2, es, rfl, hz, hl⟩ | ⟨q, rfl⟩
  rotate_left
  · exact ⟨100, 0 + 6, (t24n 100 0 q).trans (need_pos (loop240n 100 (0 + 2) q))⟩
  refine ⟨100, 0 + 6, (t24 100 0 q q2 es es).trans ?_⟩
  rw [bne_self_eq_false, cond_false]
  exact need_pos (loop240 100 (0 + 2) q q2 es hz hl)
theorem loop110 (L n : Nat) (es : List (List DV)) (i v : Int) (hz : ∀ e ∈ es, okRow z1 e = true) (hl : es.length ≤ 1000) : LoopOk (LB tab sp8 lsp5 L (n+4) h110 c11l0) (S110 es (setL es i v) i v 0) (.ex 0, St.of [] []) := by
  have hlen := setL_length es i v
  have key := loop_rounds (f := LB tab sp8 lsp5 L (n+4) h110 c11l0) (fun j => S110 es (setL es i v) i v (j : Nat)) (fun _ => (.ex 0, St.of [] [])) es.length
    (fun j hj => by
      refine .inl ⟨fun k => ?_, rfl⟩
      have he : es[j]? = some es[j] := List.getElem?_eq_getElem hj
      have hw : IntKind.i64.wrap ((j : Int) + 1) = ((j + 1 : Nat) : Int) := by rw [wrap_fits] <;> omega
      have hzi := hz es[j] (List.getElem_mem hj)
      have hlt : decide ((j : Int) < ((setL es i v).length : Int)) = true := decide_eq_true (by omega)
      rw [s110, hlt]
      simp only [Int.toNat_natCast, he, lookK_some, hzi, cond_true, hw, Nat.zero_add]
      by_cases hij : (j : Int) = i
      · have hb : ((j : Int) == i) = true := by simpa using hij
        have hx : (setL es i v)[j]? = some [.int .i64 v] := by
          unfold setL
          rw [decide_eq_true (by omega), cond_true, show i.toNat = j by omega, List.getElem?_set_self hj]
        rw [hb, hx]
        simp only [cond_true, lookK_some, List.getElem?_cons_zero, toI_int, bne_self_eq_false, cond_false, DV.isK, decide_true]
        rfl
      · have hb : ((j : Int) == i) = false := by simpa using hij
        have hx : (setL es i v)[j]? = some es[j] := by
          unfold setL
          cases hd : decide (0 ≤ i ∧ i < es.length) with
          | false => exact he
          | true =>
            have := of_decide_eq_true hd
            rw [cond_true, List.getElem?_set_ne (by omega), he]
        obtain ⟨m, hm⟩ := okRow_form hzi
        rw [hb, hx, hm]
        simp only [cond_true, cond_false, lookK_some, List.getElem?_cons_zero, toI_int, cellA_zero, bne_self_eq_false, DV.isK, decide_true]
        rfl)
    (by
      refine ⟨by simp, fun k => ?_⟩
      rw [s110, decide_eq_false (show ¬ ((es.length : Nat) : Int) < ((setL es i v).length : Int) by omega)]
      rfl)
  exact key 0 (Nat.zero_le _)
theorem sp8_ok : ∀ f s, sp8 f = some s → s.ok Try.prog f := spAdd_ok known27 (spAdd_ok set25 (spAdd_ok same24 noSp_ok))
theorem plain_rows : ∀ {es : List (List DV)}, (∀ e ∈ es, okRow z1 e = true) → plainLL es = true
  | [], _ => by simp only [plainLL]
  | e :: es, h => by
    obtain ⟨n, rfl⟩ := okRow_form (h e (by simp))
    simp only [plainLL, plainL, DV.plain, DV.isOwn, Bool.not_false, Bool.and_self, Bool.true_and]
    exact plain_rows fun e he => h e (by simp [he])
end Go.Proofs.Ytianifckopijjaa
