/- What is known of the document's row of payments, put one by one. No condition. -/
import Derived.Test.YtjejjokdbbedlaaHa
namespace Go.Proofs.Ytjejjokdbbedlaa
open Go Go.Proofs Go.RowKit Vm
set_option linter.unusedVariables false
set_option linter.unusedSimpArgs false
def and64 (x m : Int) : Int := IntKind.i64.wrap ((BitVec.ofInt IntKind.i64.bits x &&& BitVec.ofInt IntKind.i64.bits m).toNat : Int)
/-- the i-th payment, made one that may be -/
def rpF (e : List DV) : Int := (and64 (cellA e 1).toI 255).tmod 3
def rpT0 (e : List DV) : Int := (and64 (cellA e 2).toI 255).tmod 3
def rpT (e : List DV) : Int := cond (rpF e == rpT0 e) ((IntKind.i64.wrap (rpF e + 1)).tmod 3) (rpT0 e)
def rpA (e : List DV) : Int := IntKind.i64.wrap (1 + and64 (cellA e 3).toI 31)
def rpC (e : List DV) : Int := IntKind.i64.wrap (1 + (and64 (cellA e 4).toI 255).tmod 3)
def rpS (e : List DV) : Int := and64 (cellA e 5).toI 7
def rpL (e : List DV) : Int := IntKind.i64.wrap (and64 (cellA e 5).toI 7 + and64 (cellA e 6).toI 15)
def rp (i : Nat) (e : List DV) : List DV := [.int .i64 ((i + 1 : Nat) : Int), .int .i64 (rpF e), .int .i64 (rpT e), .int .i64 (rpA e), .int .i64 (rpC e), .int .i64 (rpS e), .int .i64 (rpL e)]
def rowN (l : List (List DV)) : Nat → List (List DV)
  | 0 => []
  | i + 1 => putL (rowN l i) (rp i (l[i]?.getD []))
def SR (l : List (List DV)) (v : AV) (i : Int) : St := St.of [(0, .d (.sla false 7 l)), (3, v), (4, .d (.int .i64 i))] [(67, none)]
def lRow : LSpec := fun st => match st.env 0 with
  | .d (.sla _ _ l) => .br l.isEmpty (.one (.ex 0) (St.of [(3, .d .nilsl)] [(67, none)])) (.one (.ex 0) (St.of [(3, .d (.sla false 7 (rowN l l.length)))] [(67, none)]))
  | _ => .no
def lRw (k : Nat) : Option LSpec := if k = 70 then some lRow else none
noncomputable def spRw : FuncId → Option FSpec := spAdd 21 putS noSp
def rpX (i : Int) (t : Int) (e : List DV) : List DV := [.int .i64 (IntKind.i64.wrap (i + 1)), .int .i64 (rpF e), .int .i64 t, .int .i64 (rpA e), .int .i64 (rpC e), .int .i64 (rpS e), .int .i64 (rpL e)]
noncomputable def rwK (l R : List (List DV)) (v : DV) (i : Int) (p : List DV) (k : Kont) : Option DV :=
  need (putS.D [v, .agg p]) (cond (putE R p == 0) (k .nrm (SR l (.d (.sla false 7 (putL R p))) (IntKind.i64.wrap (i + 1)))) (k .nrm (SR l (.d v) (IntKind.i64.wrap (i + 1)))))
theorem sRw (L n : Nat) (l R : List (List DV)) (i : Nat) (k : Kont) : LB tab spRw lRw (L+4) (n+4) h70 c7l0 (SR l (.d (.sla false 7 R)) i) k =
  cond (decide (((i : Nat) : Int) < (l.length : Int))) (lookK l[((i : Nat) : Int).toNat]? fun e => cond (okRow z7 e)
    (cond (rpF e == rpT0 e) (rwK l R (.sla false 7 R) (i : Nat) (rpX (i : Nat) ((IntKind.i64.wrap (rpF e + 1)).tmod 3) e) k) (rwK l R (.sla false 7 R) (i : Nat) (rpX (i : Nat) (rpT0 e) e) k)) none)
    (k (.ex 0) (St.of [(3, .d (.sla false 7 R))] [(67, none)])) := by kernel_rfl
theorem sRwn (L n : Nat) (l : List (List DV)) (i : Nat) (k : Kont) : LB tab spRw lRw (L+4) (n+4) h70 c7l0 (SR l (.d .nilsl) i) k =
  cond (decide (((i : Nat) : Int) < (l.length : Int))) (lookK l[((i : Nat) : Int).toNat]? fun e => cond (okRow z7 e)
    (cond (rpF e == rpT0 e) (rwK l [] .nilsl (i : Nat) (rpX (i : Nat) ((IntKind.i64.wrap (rpF e + 1)).tmod 3) e) k) (rwK l [] .nilsl (i : Nat) (rpX (i : Nat) (rpT0 e) e) k)) none)
    (k (.ex 0) (St.of [(3, .d .nilsl)] [(67, none)])) := by kernel_rfl
theorem tRw (L n : Nat) (l : List (List DV)) : FK tab spRw lRw L (n+8) 7 [.sla false 7 l] =
  cond l.isEmpty (need (LoopOk (LB tab spRw lRw L (n+8) h70 c7l0) (SR l (.d .nilsl) 0) (.ex 0, St.of [(3, .d .nilsl)] [(67, none)])) (some .nilsl))
    (need (LoopOk (LB tab spRw lRw L (n+8) h70 c7l0) (SR l (.d .nilsl) 0) (.ex 0, St.of [(3, .d (.sla false 7 (rowN l l.length)))] [(67, none)])) (some (.sla false 7 (rowN l l.length)))) := by kernel_rfl
theorem and_b (x : Int) {m : Nat} (hm : m < 1000) : 0 ≤ and64 x m ∧ and64 x m ≤ m := by
  unfold and64
  have h1 : (BitVec.ofInt IntKind.i64.bits x &&& BitVec.ofInt IntKind.i64.bits (m : Int)).toNat ≤ m := by
    rw [BitVec.toNat_and]
    refine Nat.le_trans Nat.and_le_right ?_
    rw [BitVec.toNat_ofInt]
    show ((m : Int) % ((2 ^ 64 : Nat) : Int)).toNat ≤ m
    omega
  rw [wrap_fits (by omega) (by omega)]
  omega
theorem rpF_b (e : List DV) : 0 ≤ rpF e ∧ rpF e ≤ 2 := by
  have := and_b (cellA e 1).toI (m := 255) (by omega)
  unfold rpF
  have h : ((255 : Nat) : Int) = 255 := rfl
  rw [h] at this
  rw [Int.tmod_eq_emod_of_nonneg this.1]
  omega
theorem rpT0_b (e : List DV) : 0 ≤ rpT0 e ∧ rpT0 e ≤ 2 := by
  have := and_b (cellA e 2).toI (m := 255) (by omega)
  unfold rpT0
  have h : ((255 : Nat) : Int) = 255 := rfl
  rw [h] at this
  rw [Int.tmod_eq_emod_of_nonneg this.1]
  omega
theorem rpT_b (e : List DV) : 0 ≤ rpT e ∧ rpT e ≤ 2 ∧ rpF e ≠ rpT e := by
  have h1 := rpF_b e
  have h2 := rpT0_b e
  unfold rpT
  rw [wrap_fits (by omega) (by omega), Int.tmod_eq_emod_of_nonneg (by omega)]
  cases h : (rpF e == rpT0 e) with
  | true =>
    rw [cond_true]
    omega
  | false =>
    have := beq_eq_false_iff_ne.1 h
    rw [cond_false]
    omega
theorem rpA_b (e : List DV) : 1 ≤ rpA e ∧ rpA e ≤ 32 := by
  have := and_b (cellA e 3).toI (m := 31) (by omega)
  unfold rpA
  have h : ((31 : Nat) : Int) = 31 := rfl
  rw [h] at this
  rw [wrap_fits (by omega) (by omega)]
  omega
theorem rpC_b (e : List DV) : 1 ≤ rpC e ∧ rpC e ≤ 3 := by
  have := and_b (cellA e 4).toI (m := 255) (by omega)
  unfold rpC
  have h : ((255 : Nat) : Int) = 255 := rfl
  rw [h] at this
  rw [Int.tmod_eq_emod_of_nonneg this.1, wrap_fits (by omega) (by omega)]
  omega
theorem rp_ok (i : Nat) (e : List DV) : okRow z7 (rp i e) = true := rfl
theorem rpX_eq {i : Nat} (hi : i < 1000000) (e : List DV) {t : Int} (ht : t = rpT e) : rpX (i : Nat) t e = rp i e := by
  unfold rpX rp
  rw [wrap_succ (by omega), ht]
/-- of such rows: all made so, each of its own number -/
structure RN (l R : List (List DV)) (i : Nat) : Prop where
  src : ∀ e ∈ R, ∃ j, j < i ∧ e = rp j (l[j]?.getD [])
  p : isP R = true
  len : R.length = min i 40
theorem RN.z {l R : List (List DV)} {i : Nat} (h : RN l R i) : ∀ e ∈ R, okRow z7 e = true := fun e he => by
  obtain ⟨j, _, rfl⟩ := h.src e he
  exact rp_ok _ _
theorem RN.zero (l : List (List DV)) : RN l [] 0 := ⟨fun e he => by simp at he, rfl, rfl⟩
theorem RN.fresh {l R : List (List DV)} {i : Nat} (h : RN l R i) : ∀ a ∈ R, idO a ≠ idO (rp i (l[i]?.getD [])) := fun a ha => by
  obtain ⟨j, hj, rfl⟩ := h.src a ha
  show ((j + 1 : Nat) : Int) ≠ ((i + 1 : Nat) : Int)
  omega
theorem RN.put {l R : List (List DV)} {i : Nat} (h : RN l R i) : RN l (putL R (rp i (l[i]?.getD []))) (i + 1) ∧ putE R (rp i (l[i]?.getD [])) = cond (decide (40 ≤ R.length)) 3 0 := by
  obtain ⟨n1, n2, n3⟩ := (isP_iff R).1 h.p
  have hf := fI_no (l := R) (id := idO (rp i (l[i]?.getD []))) h.fresh
  have hd : decide (0 ≤ fI R (idO (rp i (l[i]?.getD [])))) = false := decide_eq_false (by omega)
  have hlen := h.len
  by_cases h40 : 40 ≤ R.length
  · unfold putL putE
    rw [hd, decide_eq_true h40]
    refine ⟨⟨fun e he => ?_, h.p, ?_⟩, rfl⟩
    · obtain ⟨j, hj, rfl⟩ := h.src e he
      exact ⟨j, by omega, rfl⟩
    · simp only [cond_false, cond_true]
      omega
  · obtain ⟨-, p2, p3, -⟩ := put_in n1 n3 (by omega) h.fresh
    refine ⟨⟨fun e he => ?_, ?_, ?_⟩, ?_⟩
    · unfold putL at he
      rw [hd, decide_eq_false h40, cond_false, cond_false] at he
      rcases List.mem_append.1 he with he | he
      · obtain ⟨j, hj, rfl⟩ := h.src e (List.mem_of_mem_take he)
        exact ⟨j, by omega, rfl⟩
      · rcases List.mem_cons.1 he with rfl | he
        · exact ⟨i, by omega, rfl⟩
        · obtain ⟨j, hj, rfl⟩ := h.src e (List.mem_of_mem_drop he)
          exact ⟨j, by omega, rfl⟩
    · exact p3
    · unfold putL
      rw [hd, decide_eq_false h40, cond_false, cond_false]
      have hb := bh_le R (rp i (l[i]?.getD []))
      simp only [List.length_append, List.length_cons, List.length_take, List.length_drop]
      omega
    · unfold putE
      rw [hd, decide_eq_false h40]
      rfl
theorem rowN_RN (l : List (List DV)) : ∀ i, RN l (rowN l i) i
  | 0 => RN.zero l
  | i + 1 => ((rowN_RN l i).put).1
def rowL (l : List (List DV)) : List (List DV) := rowN l l.length
end Go.Proofs.Ytjejjokdbbedlaa
