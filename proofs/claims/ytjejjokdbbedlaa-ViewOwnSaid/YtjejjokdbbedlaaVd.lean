/- Heads's closure: what it does to what it captured. No condition. -/
import Derived.Test.YtjejjokdbbedlaaVc
namespace Go.Proofs.Ytjejjokdbbedlaa
open Go Go.Proofs Go.RowKit Vm
set_option linter.unusedVariables false
set_option linter.unusedSimpArgs false
abbrev z1 : List DV := [.int .i64 0]
def cel (e : List DV) : Int := (cellA e 0).toI
/-- may one more go? -/
def decH (M : List (List DV)) (e : List DV) : Bool := !(decide (frm e < 0) || decide (frm e ≥ (M.length : Int))) && !decide (cel (M[(frm e).toNat]?.getD []) < 1)
def nxtH (M : List (List DV)) (e : List DV) : List (List DV) := cond (decH M e) (M.set (frm e).toNat [.int .i64 (cel (M[(frm e).toNat]?.getD []) - 1)]) M
def stH (M : List (List DV)) (l : List (List DV)) : Nat → List (List DV)
  | 0 => M
  | i + 1 => nxtH (stH M l i) (l[i]?.getD [])
theorem nxtH_len (M : List (List DV)) (e : List DV) : (nxtH M e).length = M.length := by
  unfold nxtH
  cases decH M e
  · rfl
  · rw [cond_true, List.length_set]
theorem stH_len (M l : List (List DV)) : ∀ i, (stH M l i).length = M.length
  | 0 => rfl
  | i + 1 => (nxtH_len _ _).trans (stH_len M l i)
def is64 (n : Int) : Prop := -9223372036854775808 ≤ n ∧ n ≤ 9223372036854775807
def Ints (M : List (List DV)) : Prop := ∀ e ∈ M, okRow z1 e = true ∧ is64 (cel e)
theorem one_of {e : List DV} (h : okRow z1 e = true) : e = [.int .i64 (cel e)] := by
  simp only [okRow, Bool.and_eq_true] at h
  obtain ⟨hl, hk⟩ := h
  have hl : e.length = 1 := Nat.eq_of_beq_eq_true hl
  match e, hl with
  | [c], _ =>
    simp only [kindsOk, Bool.and_eq_true] at hk
    obtain ⟨n, rfl⟩ := isK_int hk.1
    rfl
theorem nxtH_ints {M : List (List DV)} (h : Ints M) (e : List DV) : Ints (nxtH M e) := by
  unfold nxtH
  cases hd : decH M e with
  | false => exact h
  | true =>
    rw [cond_true]
    intro r hr
    rcases List.mem_or_eq_of_mem_set hr with h1 | h1
    · exact h r h1
    · subst h1
      refine ⟨rfl, ?_⟩
      unfold decH at hd
      simp at hd
      have hlt : (frm e).toNat < M.length := by omega
      have h2 := (h _ (List.getElem_mem hlt)).2
      rw [List.getElem?_eq_getElem hlt] at hd
      simp only [Option.getD_some] at hd
      unfold is64 at h2 ⊢
      show -9223372036854775808 ≤ cel (M[(frm e).toNat]?.getD []) - 1 ∧ cel (M[(frm e).toNat]?.getD []) - 1 ≤ 9223372036854775807
      rw [List.getElem?_eq_getElem hlt]
      simp only [Option.getD_some]
      omega
theorem stH_ints {M : List (List DV)} (h : Ints M) (l : List (List DV)) : ∀ i, Ints (stH M l i)
  | 0 => h
  | i + 1 => nxtH_ints (stH_ints h l i) _
/-- the closure's run -/
theorem run27 (L n : Nat) {M : List (List DV)} (hM : Ints M) (a0 a1 a2 a3 a4 a5 a6 : Int) (k : Kont) : LB tab noSp lsp0 L (n+4) h27 A27 (S27 (p7 a0 a1 a2 a3 a4 a5 a6) M) k =
    k .ret (E27 (decH M (p7 a0 a1 a2 a3 a4 a5 a6)) (nxtH M (p7 a0 a1 a2 a3 a4 a5 a6)) M.length) := by
  rw [t27]
  have hf : frm (p7 a0 a1 a2 a3 a4 a5 a6) = a1 := rfl
  unfold nxtH decH
  rw [hf]
  cases hc : (decide (a1 < 0) || decide (a1 ≥ (M.length : Int))) with
  | true =>
    have : (bif decide (a1 < (0 : Int)) then true else decide (a1 ≥ (M.length : Int))) = true := by rw [← hc]; cases decide (a1 < 0) <;> rfl
    rw [this]
    rfl
  | false =>
    have h1 : (bif decide (a1 < (0 : Int)) then true else decide (a1 ≥ (M.length : Int))) = false := by rw [← hc]; cases decide (a1 < 0) <;> rfl
    simp at hc
    have hlt : a1.toNat < M.length := by omega
    have hz := hM _ (List.getElem_mem hlt)
    have he := one_of hz.1
    have e0 : M[a1.toNat][0]? = some (.int .i64 (cel M[a1.toNat])) := by rw [he]; rfl
    have el : decide (1 ≤ M[a1.toNat].length) = true := by rw [he]; rfl
    have ed : List.drop 1 M[a1.toNat] = [] := by rw [he]; rfl
    have ei : (DV.int .i64 0).isK (DV.int .i64 (cel M[a1.toNat])) = true := rfl
    have eI : (DV.int .i64 (cel M[a1.toNat])).toI = cel M[a1.toNat] := rfl
    rw [h1]
    simp only [cond_false, decide_eq_true (show (0 : Int) ≤ a1 by omega), decide_eq_true (show a1 < (M.length : Int) by omega), cond_true, look_nat hlt, e0, lookK_some, ei, eI, el, ed]
    rw [List.getElem?_eq_getElem hlt]
    simp only [Option.getD_some, Bool.not_false, Bool.true_and]
    cases hd : decide (cel M[a1.toNat] < 1) with
    | true => rfl
    | false =>
      have := of_decide_eq_false hd
      have h64 := hz.2
      unfold is64 at h64
      simp only [cond_false, Bool.not_false, cond_true]
      rw [wrap_fits (by omega) (by omega)]
      rfl
/-! ### what is hidden -/
def noS : Nat → Nat → Prop := fun _ _ => False
theorem kept_noS (w w' : World) : Kept w w' noS noS := ⟨fun _ _ h => h, fun _ _ h => h.elim⟩
def HH (gb : Nat) (M l : List (List DV)) (i : Nat) (G : Nat → Prop) (w : World) : Prop :=
  ∃ ρ : Nat → Nat × Nat, (ρ 1001).1 = gb ∧ gb ≠ (ρ 1002).1 ∧ (∀ k, G k ↔ k = gb ∨ k = (ρ 1002).1) ∧ SegOk (fun _ => False) w noS ρ 1001 (.mix 32 1 [[.aref 1002 1 0 M.length]]) ∧ SegOk (fun _ => False) w noS ρ 1002 (.dat 3 1 (stH M l i))
def XH (gb : Nat) (M l : List (List DV)) : Hid where
  B := 0
  H := HH gb M l
  lt i G w h k hk := by
    obtain ⟨ρ, h1, h2, h3, h4, h5⟩ := h
    rcases (h3 k).1 hk with rfl | rfl
    · rw [← h1]
      exact h4.lt.2.1
    · exact h5.lt.2.1
  stab i G w w' h hb hs := by
    obtain ⟨ρ, h1, h2, h3, h4, h5⟩ := h
    exact ⟨ρ, h1, h2, h3, h4.kept (kept_noS w w') (hb _ (.inr ((h3 _).2 (.inl h1)))) h4.lt.2.2, h5.kept (kept_noS w w') (hb _ (.inr ((h3 _).2 (.inr rfl)))) h5.lt.2.2⟩
/-- the rest of the world, which a closure leaves as it is -/
def XF (w : World) (G : Nat → Prop) : Hid where
  B := 0
  H := fun _ G' w' => (∀ k, G' k ↔ (k < w.heap.size ∧ ¬ G k)) ∧ (∀ k, k < w.heap.size ∧ ¬ G k → w'.heap[k]? = w.heap[k]?) ∧ w.heap.size ≤ w'.heap.size
  lt i G' w' h k hk := Nat.lt_of_lt_of_le ((h.1 k).1 hk).1 h.2.2
  stab i G' w1 w2 h hb hs := ⟨h.1, fun k hk => (hb k (.inr ((h.1 k).2 hk))).trans (h.2.1 k hk), Nat.le_trans h.2.2 hs⟩
def emptied (w : World) : World := { w with heap := #[] }
theorem seg_ints {B : Nat → Prop} {w : World} {S : Nat → Nat → Prop} {ρ : Nat → Nat × Nat} {s : Nat} {M : List (List DV)} (hM : Ints M) (h : SegOk B w S ρ s (.dat 3 1 M)) : SegOk (fun _ => False) w noS ρ s (.dat 3 1 M) := by
  refine ⟨h.1, fun h => h, ?_, h.2.fits, h.2.len, fun _ h => h⟩
  obtain ⟨cur, h1, h2, h3⟩ := h.2.here
  refine ⟨cur, h1, h2, fun i j hi hj => ?_⟩
  obtain ⟨u, hu, hr⟩ := h3 i j hi hj
  refine ⟨u, hu, fun e c he hc => ?_⟩
  have := hr e c he hc
  have hme : e ∈ M := List.mem_of_getElem? he
  rw [one_of (hM e hme).1] at hc
  have hj0 : j = 0 := by
    cases j with
    | zero => rfl
    | succ j => simp at hc
  subst hj0
  simp only [List.getElem?_cons_zero, Option.some.injEq] at hc
  subst hc
  simpa only [RdD] using this
theorem seg_box {B : Nat → Prop} {w : World} {S : Nat → Nat → Prop} {ρ : Nat → Nat × Nat} {s n : Nat} (h : SegOk B w S ρ s (.mix 32 1 [[.aref 1002 1 0 n]])) : SegOk (fun _ => False) w noS ρ s (.mix 32 1 [[.aref 1002 1 0 n]]) := by
  refine ⟨h.1, fun h => h, ?_, h.2.fits, h.2.len, fun _ h => h⟩
  obtain ⟨cur, h1, h2, h3⟩ := h.2.here
  refine ⟨cur, h1, h2, fun i j hi hj => ?_⟩
  obtain ⟨u, hu, hr⟩ := h3 i j hi hj
  refine ⟨u, hu, fun e c he hc => ?_⟩
  have := hr e c he hc
  have hi0 : i = 0 := by simp at hi; omega
  have hj0 : j = 0 := by omega
  subst hi0 hj0
  simp only [List.getElem?_cons_zero, Option.some.injEq] at he
  subst he
  simp only [List.getElem?_cons_zero, Option.some.injEq] at hc
  subst hc
  simpa only [RdA] using this
abbrev ptrV (g : Nat) : Value := .pointer (some ⟨g, 0, none⟩)
theorem payV_rd (w : World) (S : Nat → Nat → Prop) (a0 a1 a2 a3 a4 a5 a6 : Int) : RdD w S (.agg (p7 a0 a1 a2 a3 a4 a5 a6)) (payV (p7 a0 a1 a2 a3 a4 a5 a6)) := by
  simp only [RdD, p7, RdL]
  exact ⟨[.int .i64 a0, .int .i64 a1, .int .i64 a2, .int .i64 a3, .int .i64 a4, .int .i64 a5, .int .i64 a6], rfl, _, _, rfl, rfl, _, _, rfl, rfl, _, _, rfl, rfl, _, _, rfl, rfl, _, _, rfl, rfl, _, _, rfl, rfl, _, _, rfl, rfl, rfl⟩
def decHs (M l : List (List DV)) (i : Nat) : Bool := decH (stH M l i) (l[i]?.getD [])
theorem steps27 {gb : Nat} {M l : List (List DV)} (hM : Ints M) (hz : ∀ e ∈ l, okRow z7 e = true) : Steps22 (XH gb M l) 27 #[ptrV gb] l (decHs M l) := by
  intro i hi w G hH
  obtain ⟨ρ, h1, h2, h3, h4, h5⟩ := hH
  obtain ⟨a0, a1, a2, a3, a4, a5, a6, he⟩ := okRow_p (hz _ (List.getElem_mem hi))
  have he : l[i] = p7 a0 a1 a2 a3 a4 a5 a6 := he
  have hgi : l[i]?.getD [] = p7 a0 a1 a2 a3 a4 a5 a6 := by rw [List.getElem?_eq_getElem hi]; exact he
  have hMi := stH_ints hM l i
  have hlen := stH_len M l i
  refine .inl ⟨⟨Try.f27, func27, name27, none27⟩, calls_of_wp func27 body27 ?_⟩
  rw [ntmps27]
  have hTs : (#[payV l[i]] ++ #[ptrV gb] ++ Array.replicate (29 - (#[payV l[i]] ++ #[ptrV gb]).size) undef).size = 29 := by simp
  have hT0 : (#[payV l[i]] ++ #[ptrV gb] ++ Array.replicate (29 - (#[payV l[i]] ++ #[ptrV gb]).size) undef)[0]? = some (payV l[i]) := by simp [Array.getElem?_append]
  have hT1 : (#[payV l[i]] ++ #[ptrV gb] ++ Array.replicate (29 - (#[payV l[i]] ++ #[ptrV gb]).size) undef)[1]? = some (ptrV gb) := by simp [Array.getElem?_append]
  generalize (#[payV l[i]] ++ #[ptrV gb] ++ Array.replicate (29 - (#[payV l[i]] ++ #[ptrV gb]).size) undef) = T at *
  let X := XF w G
  have hXH : X.H 0 (fun k => k < w.heap.size ∧ ¬ G k) w := ⟨fun k => Iff.rfl, fun k _ => rfl, Nat.le_refl _⟩
  have hJ : JInv X (emptied w) (fun k => k < w.heap.size ∧ ¬ G k) noS 29 [(1, ptrV gb)] 0 (S27 (p7 a0 a1 a2 a3 a4 a5 a6) (stH M l i)) { tmps := T, defers := [] } w := by
    have hold : ∀ k, k < (emptied w).heap.size ∨ (k < w.heap.size ∧ ¬ G k) → k < w.heap.size := fun k hk => by
      rcases hk with hk | hk
      · exact absurd hk (Nat.not_lt_zero k)
      · exact hk.1
    refine ⟨⟨_, hold, fun k hk => .inl hk, hXH, ρ, noS, ?_⟩, ⟨rfl, rfl, rfl, Nat.zero_le _, fun k hk => absurd hk.1 (Nat.not_lt_zero k)⟩, fun t v h => ?_, Nat.zero_le _⟩
    · refine ⟨hTs, rfl, fun t => ?_, fun m t want v hv _ => ?_, fun m t want v hv _ => ?_, fun s o hs => ?_, fun s s' o o' hs hs' hr => ?_, fun _ _ h => h.elim, fun _ _ h => h, fun _ _ h => .inl h, BelowP.refl _ _⟩
      · match t with
        | 0 =>
          show RdA w noS ρ (.d (.agg (p7 a0 a1 a2 a3 a4 a5 a6))) (T.getD 0 undef)
          rw [Array.getD_eq_getD_getElem?, hT0]
          simp only [RdA, Option.getD_some]
          rw [he]
          exact payV_rd _ _ _ _ _ _ _ _ _
        | 1 =>
          show RdA w noS ρ (.ptr 1001 1 0 0) (T.getD 1 undef)
          rw [Array.getD_eq_getD_getElem?, hT1]
          simp only [RdA, h1, Option.getD_some]
        | t + 2 => exact (show RdA w noS ρ .undef _ by simp only [RdA])
      · match m with
        | 0 => cases hv
        | 1 => cases hv
        | m + 2 => cases hv
      · match m with
        | 0 => cases hv
        | 1 => cases hv
        | m + 2 => cases hv
      · have hs : pickOb [(1001, some (.mix 32 1 [[.aref 1002 1 0 (stH M l i).length]])), (1002, some (.dat 3 1 (stH M l i)))] s = some o := hs
        simp only [pickOb] at hs
        cases hb1 : Nat.beq s 1001 with
        | true =>
          have := Nat.eq_of_beq_eq_true hb1
          subst this
          rw [hb1, cond_true] at hs
          cases hs
          rw [hlen]
          refine SegOk.reb h4 fun hb => ?_
          rcases hb with hb | hb
          · exact absurd hb (Nat.not_lt_zero _)
          · exact hb.2 ((h3 _).2 (.inl h1))
        | false =>
          rw [hb1, cond_false] at hs
          cases hb2 : Nat.beq s 1002 with
          | true =>
            have := Nat.eq_of_beq_eq_true hb2
            subst this
            rw [hb2, cond_true] at hs
            cases hs
            refine SegOk.reb h5 fun hb => ?_
            rcases hb with hb | hb
            · exact absurd hb (Nat.not_lt_zero _)
            · exact hb.2 ((h3 _).2 (.inr rfl))
          | false =>
            rw [hb2, cond_false] at hs
            cases hs
      · have two : ∀ s o, (S27 (p7 a0 a1 a2 a3 a4 a5 a6) (stH M l i)).seg s = some o → s = 1001 ∨ s = 1002 := fun s o hs => by
          have hs : pickOb [(1001, some (.mix 32 1 [[.aref 1002 1 0 (stH M l i).length]])), (1002, some (.dat 3 1 (stH M l i)))] s = some o := hs
          simp only [pickOb] at hs
          cases hb1 : Nat.beq s 1001 with
          | true => exact .inl (Nat.eq_of_beq_eq_true hb1)
          | false =>
            rw [hb1, cond_false] at hs
            cases hb2 : Nat.beq s 1002 with
            | true => exact .inr (Nat.eq_of_beq_eq_true hb2)
            | false =>
              rw [hb2, cond_false] at hs
              cases hs
        rcases two s o hs with rfl | rfl <;> rcases two s' o' hs' with rfl | rfl
        · rfl
        · exact absurd (h1 ▸ hr) h2
        · exact absurd (h1 ▸ hr.symm) h2
        · rfl
    · simp only [List.mem_singleton, Prod.mk.injEq] at h
      obtain ⟨rfl, rfl⟩ := h
      exact hT1
  refine J_piece (N := 29) (R := [2]) (pins := [(1, ptrV gb)]) call0_ok (h := h27) rfl ok27 code27 (fun k => run27 20 0 hMi a0 a1 a2 a3 a4 a5 a6 k) hJ fun a' w' hJ' => ?_
  have hr : aRet (E27 (decH (stH M l i) (p7 a0 a1 a2 a3 a4 a5 a6)) (nxtH (stH M l i) (p7 a0 a1 a2 a3 a4 a5 a6)) (stH M l i).length) [.t 3] = some (.bool (decH (stH M l i) (p7 a0 a1 a2 a3 a4 a5 a6))) := rfl
  obtain ⟨r1, v, r2, S', r3⟩ := J_ret res27 hr (fun B B' w S v _ h => h) hJ'
  refine ⟨r1, v, r2, v, rfl, ?_⟩
  have hv : v = .bool (decHs M l i) := by
    unfold decHs
    rw [hgi]
    simpa only [Res, RdD] using r3.res
  refine ⟨hv, ?_⟩
  obtain ⟨⟨G', hl, hG, ⟨x1, x2, x3⟩, ρ', S', hI⟩, hbel, hpin, _⟩ := hJ'
  have hp := hpin 1 (ptrV gb) (by simp)
  have e1 : RdA w' S' ρ' (.ptr 1001 1 0 0) (a'.tmps.getD 1 undef) := hI.env 1
  rw [Array.getD_eq_getD_getElem?, hp] at e1
  simp only [RdA, Option.getD_some, Value.pointer.injEq, Option.some.injEq, Addr.mk.injEq] at e1
  have hgb : (ρ' 1001).1 = gb := e1.1.symm
  have s1 := hI.seg 1001 (.mix 32 1 [[.aref 1002 1 0 (stH M l i).length]]) rfl
  have s2 := hI.seg 1002 (.dat 3 1 (nxtH (stH M l i) (p7 a0 a1 a2 a3 a4 a5 a6))) rfl
  have hne : gb ≠ (ρ' 1002).1 := fun h => by
    have := hI.apart 1001 1002 _ _ rfl rfl (hgb.trans h)
    omega
  refine ⟨fun k => k = gb ∨ k = (ρ' 1002).1, ⟨ρ', hgb, hne, fun k => Iff.rfl, ?_, ?_⟩, ⟨hbel.os, hbel.tape, hbel.output, x3, x2⟩, fun k hk => ?_⟩
  · rw [hlen] at s1
    exact seg_box s1
  · have : stH M l (i + 1) = nxtH (stH M l i) (p7 a0 a1 a2 a3 a4 a5 a6) := by
      show nxtH (stH M l i) (l[i]?.getD []) = _
      rw [hgi]
    rw [this]
    exact seg_ints (nxtH_ints hMi _) s2
  · rcases hk with rfl | rfl
    · exact .inl ((h3 _).2 (.inl rfl))
    · by_cases hk : (ρ' 1002).1 < w.heap.size
      · refine .inl (Classical.byContradiction fun hn => s2.lt.1 (.inr ((x1 _).2 ⟨hk, hn⟩)))
      · exact .inr (by omega)
end Go.Proofs.Ytjejjokdbbedlaa
