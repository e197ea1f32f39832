/- The statement 'Rows.RowClassSaid': its function is run by the pure machine on data of its parameters' kinds; it gives true. No condition. -/
import Derived.Test.YtngghbloijkfoaaRows
import Derived.Test.YtngghbloijkfoaaRk
import Derived.WalkKit
import Derived.ProofKit
import Derived.OpenShut
import Derived.ShutString
namespace Go.Proofs.Ytngghbloijkfoaa.rowClass
open Go Go.Proofs Go.ChangeShapes Go.WideShapes Go.ChangeAt Go.RowKit Vm
set_option linter.unusedVariables false
set_option linter.unusedSimpArgs false

theorem own : ownKnob Try.prog.godebug = none := by kernel_rfl

def kinds : List Kd := [.slice (.struct [.int .i64, .int .i64, .int .i64, .int .i64, .int .i64, .int .i64, .int .i64]), .int .i64, .int .i64]
theorem at_j (w : Int) {n : Nat} (h : 0 < n) : ∃ j : Nat, j < n ∧ (IntKind.i64.wrap (((BitVec.ofInt IntKind.i64.bits w &&& BitVec.ofInt IntKind.i64.bits (65535 : Int)).toNat : Nat) : Int)).tmod (n : Int) = ((j : Nat) : Int) := by
  have h1 : (BitVec.ofInt IntKind.i64.bits w &&& BitVec.ofInt IntKind.i64.bits (65535 : Int)).toNat ≤ 65535 := by
    rw [BitVec.toNat_and]
    exact Nat.and_le_right
  generalize (BitVec.ofInt IntKind.i64.bits w &&& BitVec.ofInt IntKind.i64.bits (65535 : Int)).toNat = g at *
  refine ⟨g % n, Nat.mod_lt _ h, ?_⟩
  rw [wrap_fits (by omega) (by omega), Int.tmod_eq_emod_of_nonneg (by omega)]
  rfl
theorem runsS (xs : List DV) (h : KVs kinds xs) : Ent Try.prog 8 xs (.bool true) := by
  simp only [kinds, KVs, KV, KC] at h
  obtain ⟨x, _, rfl, ⟨es, hx, hes⟩, _, _, rfl, ⟨w, hw, _⟩, _, _, rfl, ⟨c, hc, _⟩, rfl⟩ := h
  cases hx
  cases hw
  cases hc
  have hz : ∀ e ∈ es, okRow z7 e = true := fun e he => by
    obtain ⟨_, _, rfl, ⟨a0, rfl, _⟩, _, _, rfl, ⟨a1, rfl, _⟩, _, _, rfl, ⟨a2, rfl, _⟩, _, _, rfl, ⟨a3, rfl, _⟩, _, _, rfl, ⟨a4, rfl, _⟩, _, _, rfl, ⟨a5, rfl, _⟩, _, _, rfl, ⟨a6, rfl, _⟩, rfl⟩ := hes e he
    rfl
  refine of_FK tab_ok spM7_ok (L := 20) (n := 0 + 8) ((l8 20 0 es w c).trans ?_)
  refine cond_of (fun _ => rfl) (fun h => ?_)
  have h0 : ¬ (es.length : Int) < 1 := fun h1 => by rw [decide_eq_true h1] at h; cases h
  rw [decide_eq_false h0, cond_false] at h
  have h40 : ¬ (es.length : Int) > 40 := of_decide_eq_false h
  have hI : I7 1000 (.sla false 7 es) := ⟨Sl.sla _ _ _, hz, by rw [rowsA_sla]; omega⟩
  refine (need_pos ⟨_, rfl, hI⟩).trans ?_
  cases hb : isP es with
  | false => rfl
  | true =>
    obtain ⟨j, hj, hje⟩ := at_j w (n := es.length) (by omega)
    rw [Bool.not_true, cond_false, decide_eq_false (show ¬ (es.length : Int) = 0 by omega), cond_false, hje, decide_eq_true (show (0 : Int) ≤ (j : Int) by omega), cond_true, Int.toNat_natCast, look_nat hj, hz _ (List.getElem_mem hj), cond_true]
    have hid : (cellA es[j] 0).toI = idO es[j] := rfl
    obtain ⟨t1, t2, t3, t4, t5, t6, t7, t8⟩ := take_out hb hj
    have hP : okRow z7 (setC es[j] c) = true := rfl
    have hpid : idO (setC es[j] c) = idO es[j] := rfl
    have hn : decide (fI es (idO es[j]) < 0) = false := decide_eq_false (by omega)
    have hR : ∀ e ∈ es.take j ++ es.drop (j + 1), okRow z7 e = true := fun e he => by
      rcases List.mem_append.1 he with h | h
      · exact hz e (List.mem_of_mem_take h)
      · exact hz e (List.mem_of_mem_drop h)
    obtain ⟨p1, p2, p3, p4, p5, p6⟩ := put_in t5 t6 (by omega) (p := setC es[j] c) t7
    have eL : clsL es (idO es[j]) c = putL (es.take j ++ es.drop (j + 1)) (setC es[j] c) := by
      unfold clsL
      rw [hn, t2, t3]
      rfl
    have eE : clsE es (idO es[j]) c = 0 := by
      unfold clsE
      rw [hn, t2, t3, cond_false, p2]
    have eE2 : clsE (es.take j ++ es.drop (j + 1)) (idO es[j]) c = 4 := by
      unfold clsE
      rw [decide_eq_true (fI_no t7)]
      rfl
    have hbl := bh_le (es.take j ++ es.drop (j + 1)) (setC es[j] c)
    have hbd := bh_drop t6 (setC es[j] c)
    have hTl : ((es.take j ++ es.drop (j + 1)).take (bhP (es.take j ++ es.drop (j + 1)) (setC es[j] c))).length = bhP (es.take j ++ es.drop (j + 1)) (setC es[j] c) := by rw [List.length_take]; omega
    simp only [hid, eL, eE, t2, eE2]
    rw [hpid] at p4 p5
    generalize es.take j ++ es.drop (j + 1) = R at *
    have q2 : (putL R (setC es[j] c)).drop (bhP R (setC es[j] c) + 1) = R.drop (bhP R (setC es[j] c)) := by
      rw [p1, List.drop_append, List.drop_eq_nil_of_le (by omega), hTl, List.nil_append, show bhP R (setC es[j] c) + 1 - bhP R (setC es[j] c) = 1 by omega]
      rfl
    have hMl : (putL R (setC es[j] c)).length = es.length := by
      rw [p1, List.length_append, List.length_cons, hTl, List.length_drop]
      omega
    have hM : ∀ e ∈ putL R (setC es[j] c), okRow z7 e = true := fun e he => by
      rw [p1] at he
      rcases List.mem_append.1 he with h | h
      · exact hR e (List.mem_of_mem_take h)
      · rcases List.mem_cons.1 h with rfl | h
        · exact hP
        · exact hR e (List.mem_of_mem_drop h)
    have hbM : bhP R (setC es[j] c) + 1 ≤ (putL R (setC es[j] c)).length := by rw [hMl]; omega
    have hd : ∀ i (hi : i < (putL R (setC es[j] c)).length), bhP R (setC es[j] c) + 1 ≤ i → ¬ (frm (putL R (setC es[j] c))[i] = frm es[j] ∧ cls (putL R (setC es[j] c))[i] = c) := fun i hi hbi hh => by
      have hm : (putL R (setC es[j] c))[i] ∈ R.drop (bhP R (setC es[j] c)) := by
        rw [← q2]
        have hlt : i - (bhP R (setC es[j] c) + 1) < ((putL R (setC es[j] c)).drop (bhP R (setC es[j] c) + 1)).length := by rw [List.length_drop]; omega
        have := List.getElem_mem hlt
        rw [List.getElem_drop] at this
        simpa only [show bhP R (setC es[j] c) + 1 + (i - (bhP R (setC es[j] c) + 1)) = i by omega] using this
      have h1 := hbd _ hm
      have h2 : ahB (putL R (setC es[j] c))[i] (setC es[j] c) = true := (ah_iff _ _).2 (.inr ⟨hh.1, by rw [hh.2]; exact Int.le_refl _⟩)
      rw [h2] at h1
      cases h1
    generalize putL R (setC es[j] c) = M at *
    generalize hbb : bhP R (setC es[j] c) = b at *
    have hI2 : I7 1000 (.sla false 7 M) := ⟨Sl.sla _ _ _, hM, by rw [rowsA_sla]; omega⟩
    have hI3 : I7 1000 (.sla false 7 R) := ⟨Sl.sla _ _ _, hR, by rw [rowsA_sla]; omega⟩
    refine (need_pos ⟨_, _, _, rfl, hI⟩).trans ?_
    refine (need_pos ⟨_, _, rfl, hI⟩).trans ?_
    refine (need_pos ⟨_, _, rfl, hI2⟩).trans ?_
    rw [p4, decide_eq_false (show ¬ ((b : Nat) : Int) < 0 by omega), decide_eq_true (show (0 : Int) ≤ ((b : Nat) : Int) by omega), Int.toNat_natCast, p6, lookK_some, wrap_succ (by omega), p5, p3]
    have hcc : ((cellA (setC es[j] c) 4).toI != c) = false := bne_self_eq_false c
    simp only [hP, hcc, cond_true, cond_false, bne_self_eq_false, Bool.not_true]
    refine (need_pos ⟨_, rfl, hI2⟩).trans ?_
    refine (need_pos ⟨_, _, rfl, hI2⟩).trans ?_
    refine (need_pos (loop80 20 (0 + 4) c (cellA es[j] 0).toI (cellA es[j] 1).toI (cellA es[j] 2).toI (cellA es[j] 3).toI (cellA es[j] 4).toI (cellA es[j] 5).toI (cellA es[j] 6).toI R R hM (by omega) (b + 1) hbM hd)).trans ?_
    refine (need_pos ⟨_, _, _, rfl, hI3⟩).trans ?_
    refine (need_pos ⟨_, _, rfl, hI3, hI3⟩).trans ?_
    rw [show sameP R R = true by simp [sameP]]
    exact need_pos rfl

set_option maxRecDepth 100000 in
theorem lifted (os : Os) (started : os.Started) (H : Type) (enc : TypeId × Value → H) :
    ReturnsInHanded {} Try.checked os 8 .any (Rows.rowClassSpec.pre6 enc Try.prog Try.f8 Rows.rowClassRow.domain false) (Rows.rowClassSpec.post enc Try.prog Try.f8 false true false false) := by
  refine returnsInHanded_of_change (C := Try.checked) own started (by kernel_rfl) Try.func8
    (ChangeSpec.witness6 (enc := enc) (C := Try.checked) false ⟨#[], #[.slice none 0 0, .int .i64 0, .int .i64 0], []⟩ 8 (by kernel_rfl) (by kernel_rfl) (by kernel_rfl) (by kernel_rfl)) ?_
  intro W base args ds gs before hval0 hW hcnd _
  exact law_contract (H := H) (enc := enc) (s := Rows.rowClassSpec) (fn := Try.f8) (by kernel_rfl) rfl (n := 8) (Ks := kinds) (by kernel_rfl) (by kernel_rfl) (rt := 4) (by kernel_rfl) (by kernel_rfl)
    (fun ds h => by
      have h' : ds.length = 3 := h
      obtain ⟨d0, d1, d2, rfl⟩ := len3 h'
      exact ⟨rfl, rfl, rfl⟩) runsS W base args ds gs before hval0 hW

theorem over : Rows.rowClassRow.holds Try.pinned (OpenSpec.ofChange Rows.rowClassSpec) :=
  OpenClaim.holds_of_wide 8 Try.f8 rfl rfl rfl rfl rfl rfl rfl ⟨rfl, rfl, rfl, rfl, rfl⟩ rfl rfl rfl rfl rfl (by kernel_rfl) Try.func8 (by kernel_rfl)
    (of_decide_eq_true (by kernel_rfl)) (by unfold Func.isWrapper; first | (rw [if_pos (by decide +kernel)]; kernel_rfl) | (rw [if_neg (by decide +kernel)]; exact ⟨rfl, rfl⟩))
    (fun os started H enc _ => lifted os started H enc)

/-- ████ THE STATEMENT ████ -/
theorem proved : Rows.RowClassSaid :=
  over
#print axioms proved
end Go.Proofs.Ytngghbloijkfoaa.rowClass
