/- The statement 'Rows.RowOrderSaid': its function is run by the pure machine on data of its parameters' kinds; it gives true. No condition. -/
import Derived.Test.YtngghbloijkfoaaRows
import Derived.Test.YtngghbloijkfoaaRn
import Derived.WalkKit
import Derived.ProofKit
import Derived.OpenShut
import Derived.ShutString
namespace Go.Proofs.Ytngghbloijkfoaa.rowOrder
open Go Go.Proofs Go.ChangeShapes Go.WideShapes Go.ChangeAt Go.RowKit Vm
set_option linter.unusedVariables false
set_option linter.unusedSimpArgs false

theorem own : ownKnob Try.prog.godebug = none := by kernel_rfl

def kinds : List Kd := [.slice (.struct [.int .i64, .int .i64, .int .i64, .int .i64, .int .i64, .int .i64, .int .i64]), .int .i64, .bool]
theorem spO7_ok : ∀ f s, spO7 f = some s → s.ok Try.prog f := spAdd_ok front28 (spAdd_ok back29 spM7_ok)
theorem at_j (w : Int) {n : Nat} (h : 0 < n) : ∃ j : Nat, j < n ∧ (IntKind.i64.wrap (((BitVec.ofInt IntKind.i64.bits w &&& BitVec.ofInt IntKind.i64.bits (65535 : Int)).toNat : Nat) : Int)).tmod (n : Int) = ((j : Nat) : Int) := by
  have h1 : (BitVec.ofInt IntKind.i64.bits w &&& BitVec.ofInt IntKind.i64.bits (65535 : Int)).toNat ≤ 65535 := by
    rw [BitVec.toNat_and]
    exact Nat.and_le_right
  generalize (BitVec.ofInt IntKind.i64.bits w &&& BitVec.ofInt IntKind.i64.bits (65535 : Int)).toNat = g at *
  refine ⟨g % n, Nat.mod_lt _ h, ?_⟩
  rw [wrap_fits (by omega) (by omega), Int.tmod_eq_emod_of_nonneg (by omega)]
  rfl
theorem runsS (xs : List DV) (h : KVs kinds xs) : Ent Try.prog 9 xs (.bool true) := by
  simp only [kinds, KVs, KV, KC] at h
  obtain ⟨x, _, rfl, ⟨es, hx, hes⟩, _, _, rfl, ⟨w, hw, _⟩, _, _, rfl, ⟨bk, hbk⟩, rfl⟩ := h
  cases hx
  cases hw
  cases hbk
  have hz : ∀ e ∈ es, okRow z7 e = true := fun e he => by
    obtain ⟨_, _, rfl, ⟨a0, rfl, _⟩, _, _, rfl, ⟨a1, rfl, _⟩, _, _, rfl, ⟨a2, rfl, _⟩, _, _, rfl, ⟨a3, rfl, _⟩, _, _, rfl, ⟨a4, rfl, _⟩, _, _, rfl, ⟨a5, rfl, _⟩, _, _, rfl, ⟨a6, rfl, _⟩, rfl⟩ := hes e he
    rfl
  refine of_FK tab_ok spO7_ok (L := 20) (n := 0 + 8) ((t9 20 0 es w bk).trans ?_)
  refine cond_of (fun _ => rfl) (fun h => ?_)
  have h0 : ¬ (es.length : Int) < 1 := fun h1 => by rw [decide_eq_true h1] at h; cases h
  rw [decide_eq_false h0, cond_false] at h
  have h40 : ¬ (es.length : Int) > 40 := of_decide_eq_false h
  have hI : I7 1000 (.sla false 7 es) := ⟨Sl.sla _ _ _, hz, by rw [rowsA_sla]; omega⟩
  refine (need_pos ⟨_, rfl, hI⟩).trans ?_
  cases hb : isP es with
  | false => rfl
  | true =>
    obtain ⟨j, hj, hje⟩ := at_j w (n := es.length) (by omega)
    rw [Bool.not_true, cond_false, decide_eq_false (show ¬ (es.length : Int) = 0 by omega), cond_false, hje, decide_eq_true (show (0 : Int) ≤ (j : Int) by omega), cond_true, Int.toNat_natCast, look_nat hj, hz _ (List.getElem_mem hj), cond_true]
    have hid : (cellA es[j] 0).toI = idO es[j] := rfl
    have hzj := hz _ (List.getElem_mem hj)
    obtain ⟨t1, t2, t3, t4, t5, t6, t7, t8⟩ := take_out hb hj
    have hn : decide (fI es (idO es[j]) < 0) = false := decide_eq_false (by omega)
    have hR : ∀ e ∈ es.take j ++ es.drop (j + 1), okRow z7 e = true := fun e he => by
      rcases List.mem_append.1 he with h | h
      · exact hz e (List.mem_of_mem_take h)
      · exact hz e (List.mem_of_mem_drop h)
    have eF : frnL es (idO es[j]) = (es.take j ++ es.drop (j + 1)).take (frP (es.take j ++ es.drop (j + 1)) es[j]) ++ es[j] :: (es.take j ++ es.drop (j + 1)).drop (frP (es.take j ++ es.drop (j + 1)) es[j]) := by
      unfold frnL
      rw [hn, t2, t3]
      rfl
    have eFE : frnE es (idO es[j]) = 0 := by
      unfold frnE
      rw [hn]
      rfl
    have hpay : pay7 es[j] = es[j] := eta7 hzj
    obtain ⟨p1, p2, -⟩ := put_in t5 t6 (by omega) (p := es[j]) t7
    have eB : bakL es (idO es[j]) = (es.take j ++ es.drop (j + 1)).take (bhP (es.take j ++ es.drop (j + 1)) es[j]) ++ es[j] :: (es.take j ++ es.drop (j + 1)).drop (bhP (es.take j ++ es.drop (j + 1)) es[j]) := by
      unfold bakL
      rw [hn, t2, t3, hpay, ← p1]
      rfl
    have eBE : bakE es (idO es[j]) = 0 := by
      unfold bakE
      rw [hn, t2, t3, hpay, p2]
      rfl
    have hbl := bh_le (es.take j ++ es.drop (j + 1)) es[j]
    have hbd := bh_drop t6 es[j]
    have hbt := bh_take (es.take j ++ es.drop (j + 1)) es[j]
    have hfl := fr_le (es.take j ++ es.drop (j + 1)) es[j]
    have hfd := fr_drop t6 es[j]
    have hft := fr_take (es.take j ++ es.drop (j + 1)) es[j]
    simp only [hid, eFE, eBE, t2, eF, eB]
    generalize bhP (es.take j ++ es.drop (j + 1)) es[j] = bb at *
    generalize frP (es.take j ++ es.drop (j + 1)) es[j] = fb at *
    generalize es.take j ++ es.drop (j + 1) = R at *
    have hl40 : R.length < 40 := by omega
    refine (need_pos ⟨_, _, rfl, hI⟩).trans ?_
    have side : ∀ (b : Nat) (hb : b ≤ R.length) (hA : ∀ a ∈ R.take b, ahB a es[j] = true) (hD : ∀ d ∈ R.drop b, ahB es[j] d = true) (hlike : ∀ i (hi : i < (R.take b ++ es[j] :: R.drop b).length), i ≠ b → frm (R.take b ++ es[j] :: R.drop b)[i] = frm es[j] → cls (R.take b ++ es[j] :: R.drop b)[i] = cls es[j] → decide (i < b) = bk),
        (cond (cond ((0 : Int) != 0) true (((R.take b ++ es[j] :: R.drop b).length : Int) != (es.length : Int))) (some (DV.bool false)) (need (isPS.D [DV.sla false 7 (R.take b ++ es[j] :: R.drop b)]) (cond (!isP (R.take b ++ es[j] :: R.drop b)) (some (DV.bool false)) (need (drpS.D [DV.sla false 7 es, DV.int .i64 (idO es[j])]) (need (drpS.D [DV.sla false 7 (R.take b ++ es[j] :: R.drop b), DV.int .i64 (idO es[j])]) (cond (dropE (R.take b ++ es[j] :: R.drop b) (idO es[j]) != 0) (some (DV.bool false)) (need (samP.D [DV.sla false 7 R, DV.sla false 7 (dropL (R.take b ++ es[j] :: R.drop b) (idO es[j]))]) (cond (!sameP R (dropL (R.take b ++ es[j] :: R.drop b) (idO es[j]))) (some (DV.bool false)) (need (fndS.D [DV.sla false 7 (R.take b ++ es[j] :: R.drop b), DV.int .i64 (idO es[j])]) (need (LoopOk (LB tab spO7 l9 20 (0 + 8) h90 c9l0) (S9 bk (cellA es[j] 0).toI (cellA es[j] 1).toI (cellA es[j] 2).toI (cellA es[j] 3).toI (cellA es[j] 4).toI (cellA es[j] 5).toI (cellA es[j] 6).toI (R.take b ++ es[j] :: R.drop b) (fI (R.take b ++ es[j] :: R.drop b) (idO es[j])) 0) (.ex 0, St.of [] [])) (need (kno7.D []) (some (DV.bool true)))))))))))) : Option DV) = some (DV.bool true) := fun b hb hA hD hlike => by
      obtain ⟨q1, q2, q3, q4, q5, q6⟩ := put_at t5 t6 hl40 t7 hb hA hD rfl
      have hMl : (R.take b ++ es[j] :: R.drop b).length = es.length := by
        rw [List.length_append, List.length_cons, List.length_take, List.length_drop]
        omega
      have hM : ∀ e ∈ R.take b ++ es[j] :: R.drop b, okRow z7 e = true := fun e he => by
        rcases List.mem_append.1 he with h | h
        · exact hR e (List.mem_of_mem_take h)
        · rcases List.mem_cons.1 h with rfl | h
          · exact hzj
          · exact hR e (List.mem_of_mem_drop h)
      have hI2 : I7 1000 (.sla false 7 (R.take b ++ es[j] :: R.drop b)) := ⟨Sl.sla _ _ _, hM, by rw [rowsA_sla, hMl]; omega⟩
      have hI3 : I7 1000 (.sla false 7 R) := ⟨Sl.sla _ _ _, hR, by rw [rowsA_sla]; omega⟩
      have hM1000 : (R.take b ++ es[j] :: R.drop b).length ≤ 1000 := by rw [hMl]; omega
      have hL := loop90 20 (0 + 4) bk (cellA es[j] 0).toI (cellA es[j] 1).toI (cellA es[j] 2).toI (cellA es[j] 3).toI (cellA es[j] 4).toI (cellA es[j] 5).toI (cellA es[j] 6).toI hM hM1000 b hlike
      rw [q1, q2, q3, q6, hMl, bne_self_eq_false, bne_self_eq_false]
      refine (need_pos ⟨_, rfl, hI2⟩).trans ?_
      refine (need_pos ⟨_, _, rfl, hI⟩).trans ?_
      refine (need_pos ⟨_, _, rfl, hI2⟩).trans ?_
      rw [cond_false]
      refine (need_pos ⟨_, _, rfl, hI3, hI3⟩).trans ?_
      rw [show sameP R R = true by simp [sameP]]
      refine (need_pos ⟨_, _, rfl, hI2⟩).trans ?_
      refine (need_pos hL).trans ?_
      exact need_pos rfl
    cases bk with
    | true =>
      refine (need_pos ⟨_, _, rfl, hI⟩).trans ?_
      refine side bb hbl hbt (fun d hd => ah_total (hbd d hd)) fun i hi hib h1 h2 => ?_
      rcases at_other hbl hi hib with ⟨h, hm⟩ | ⟨h, hm⟩
      · exact decide_eq_true h
      · have := hbd _ hm
        rw [ah_like h1 h2] at this
        cases this
    | false =>
      refine side fb hfl (fun a ha => ah_total (hft a ha)) hfd fun i hi hib h1 h2 => ?_
      rcases at_other hfl hi hib with ⟨h, hm⟩ | ⟨h, hm⟩
      · have := hft _ hm
        rw [ah_like h1.symm h2.symm] at this
        cases this
      · exact decide_eq_false (by omega)

set_option maxRecDepth 100000 in
theorem lifted (os : Os) (started : os.Started) (H : Type) (enc : TypeId × Value → H) :
    ReturnsInHanded {} Try.checked os 9 .any (Rows.rowOrderSpec.pre6 enc Try.prog Try.f9 Rows.rowOrderRow.domain false) (Rows.rowOrderSpec.post enc Try.prog Try.f9 false true false false) := by
  refine returnsInHanded_of_change (C := Try.checked) own started (by kernel_rfl) Try.func9
    (ChangeSpec.witness6 (enc := enc) (C := Try.checked) false ⟨#[], #[.slice none 0 0, .int .i64 0, .bool false], []⟩ 8 (by kernel_rfl) (by kernel_rfl) (by kernel_rfl) (by kernel_rfl)) ?_
  intro W base args ds gs before hval0 hW hcnd _
  exact law_contract (H := H) (enc := enc) (s := Rows.rowOrderSpec) (fn := Try.f9) (by kernel_rfl) rfl (n := 8) (Ks := kinds) (by kernel_rfl) (by kernel_rfl) (rt := 4) (by kernel_rfl) (by kernel_rfl)
    (fun ds h => by
      have h' : ds.length = 3 := h
      obtain ⟨d0, d1, d2, rfl⟩ := len3 h'
      exact ⟨rfl, rfl, rfl⟩) runsS W base args ds gs before hval0 hW

theorem over : Rows.rowOrderRow.holds Try.pinned (OpenSpec.ofChange Rows.rowOrderSpec) :=
  OpenClaim.holds_of_wide 9 Try.f9 rfl rfl rfl rfl rfl rfl rfl ⟨rfl, rfl, rfl, rfl, rfl⟩ rfl rfl rfl rfl rfl (by kernel_rfl) Try.func9 (by kernel_rfl)
    (of_decide_eq_true (by kernel_rfl)) (by unfold Func.isWrapper; first | (rw [if_pos (by decide +kernel)]; kernel_rfl) | (rw [if_neg (by decide +kernel)]; exact ⟨rfl, rfl⟩))
    (fun os started H enc _ => lifted os started H enc)

/-- ████ THE STATEMENT ████ -/
theorem proved : Rows.RowOrderSaid :=
  over
#print axioms proved
end Go.Proofs.Ytngghbloijkfoaa.rowOrder
