/- What payments come to: what is known of moved. No condition. -/
import Derived.Test.YthjcfiekdejdgaaGc
namespace Go.Proofs.Ythjcfiekdejdgaa
open Go Go.Proofs Go.RowKit Vm
set_option linter.unusedVariables false
set_option linter.unusedSimpArgs false
theorem sumL_append (φ : List DV → Int) (a b : List (List DV)) : sumL φ (a ++ b) = sumL φ a + sumL φ b := by
  induction a with
  | nil => simp [sumL]
  | cons x a ih =>
    simp only [List.cons_append, sumL, ih]
    omega
theorem sumL_take {φ : List DV → Int} {l : List (List DV)} {i : Nat} (hi : i < l.length) : sumL φ (l.take (i + 1)) = sumL φ (l.take i) + φ l[i] := by
  rw [List.take_succ_eq_append_getElem hi, sumL_append]
  simp [sumL]
theorem sumL_bound {φ : List DV → Int} {B : Int} : ∀ {l : List (List DV)}, (∀ e ∈ l, -B ≤ φ e ∧ φ e ≤ B) → -(B * (l.length : Int)) ≤ sumL φ l ∧ sumL φ l ≤ B * (l.length : Int)
  | [], _ => by simp [sumL]
  | e :: l, h => by
    have h1 := h e (by simp)
    have h2 := sumL_bound fun r hr => h r (List.mem_cons.2 (.inr hr))
    simp only [sumL, List.length_cons]
    rw [show (((l.length + 1 : Nat)) : Int) = (l.length : Int) + 1 by omega, Int.mul_add, Int.mul_one]
    omega
/-- a payment that may be -/
structure PO (n : Nat) (e : List DV) : Prop where
  z : okRow z7 e = true
  f0 : 0 ≤ pF e
  f1 : pF e < n
  t0 : 0 ≤ pT e
  t1 : pT e < n
  ne : pF e ≠ pT e
  a0 : 1 ≤ pA e
  a1 : pA e ≤ 1099511627776
  c0 : 1 ≤ pC e
  c1 : pC e ≤ 3
theorem PO.dM {n : Nat} {e : List DV} (h : PO n e) (j : Nat) : -1099511627776 ≤ dM j e ∧ dM j e ≤ 1099511627776 := by
  obtain ⟨_, _, _, _, _, h1, h2, h3, _, _⟩ := h
  unfold Go.Proofs.Ythjcfiekdejdgaa.dM
  split <;> split <;> omega
theorem PO.dS {n : Nat} {e : List DV} (h : PO n e) (j : Nat) : 0 ≤ dS j e ∧ dS j e ≤ 1099511627776 := by
  obtain ⟨_, _, _, _, _, h1, h2, h3, _, _⟩ := h
  unfold Go.Proofs.Ythjcfiekdejdgaa.dS
  split <;> omega
theorem PO.dQ {n : Nat} {e : List DV} (h : PO n e) (j k : Nat) : -1099511627776 ≤ dQ j k e ∧ dQ j k e ≤ 1099511627776 := by
  obtain ⟨_, _, _, _, _, h1, h2, h3, _, _⟩ := h
  unfold Go.Proofs.Ythjcfiekdejdgaa.dQ
  split <;> split <;> omega
theorem cells_len (n : Nat) (g : Nat → Int) : (cells n g).length = n := by simp [cells]
theorem cells_at {n : Nat} (g : Nat → Int) {a : Nat} (h : a < n) : (cells n g)[a]? = some [.int .i64 (g a)] := by
  unfold cells
  rw [List.getElem?_map, List.getElem?_range h]
  rfl
theorem cells_ext {n : Nat} {g h : Nat → Int} (e : ∀ j, j < n → g j = h j) : cells n g = cells n h := by
  unfold cells
  exact List.map_congr_left fun j hj => by rw [e j (List.mem_range.1 hj)]
theorem cells_set {n : Nat} (g : Nat → Int) {a : Nat} (v : Int) (h : a < n) : (cells n g).set a [.int .i64 v] = cells n fun j => if j = a then v else g j := by
  refine List.ext_getElem? fun j => ?_
  by_cases hj : j < n
  · rw [cells_at _ hj]
    by_cases hja : j = a
    · subst hja
      rw [List.getElem?_set_self (by rw [cells_len]; exact hj), if_pos rfl]
    · rw [List.getElem?_set_ne (fun h => hja h.symm), cells_at _ hj, if_neg hja]
  · rw [List.getElem?_eq_none (by rw [List.length_set, cells_len]; omega), List.getElem?_eq_none (by rw [cells_len]; omega)]
theorem upd_cells {h : Int → Int} {n : Nat} {g : Nat → Int} {i : Int} {a : Nat} (hi : i = (a : Nat)) (ha : a < n) (h1 : -9223372036854775808 ≤ h (g a)) (h2 : h (g a) ≤ 9223372036854775807) (K : List (List DV) → Option DV) :
    upd h n (cells n g) i K = K (cells n fun j => if j = a then h (g a) else g j) := by
  subst hi
  unfold upd
  rw [decide_eq_true (by omega), cond_true, decide_eq_true (show ((a : Nat) : Int) < (n : Int) by omega), cond_true, Int.toNat_natCast, Nat.zero_add, cells_at g ha]
  simp only [lookK_some, List.getElem?_cons_zero, cond_true, List.length_cons, List.length_nil, decide_true, Nat.zero_add, Nat.le_refl, toI_int, List.drop_succ_cons, List.drop_zero]
  rw [show ((DV.int .i64 0).isK (.int .i64 (g a))) = true from rfl, cond_true, wrap_fits h1 h2, cells_set g _ ha]
theorem pickN_at {K : Nat → Option DV} : ∀ {c g a : Nat}, a < c → pickN c g a K = K (g + a)
  | 0, _, _, h => by omega
  | c + 1, g, 0, _ => rfl
  | c + 1, g, a + 1, h => by
    show cond (Nat.beq (a + 1) 0) (K g) (pickN c (g + 1) (a + 1 - 1) K) = _
    rw [show Nat.beq (a + 1) 0 = false from rfl, cond_false, Nat.add_sub_cancel, pickN_at (by omega)]
    congr 1
    omega
def sq (n : Nat) (G : Nat → Nat → Int) : List (List (List DV)) := (List.range n).map fun f => cells n (G f)
theorem sq_len (n : Nat) (G : Nat → Nat → Int) : (sq n G).length = n := by simp [sq]
theorem sq_at {n : Nat} (G : Nat → Nat → Int) {a : Nat} (h : a < n) : (sq n G)[a]? = some (cells n (G a)) := by
  unfold sq
  rw [List.getElem?_map, List.getElem?_range h]
  rfl
theorem sq_get {n : Nat} (G : Nat → Nat → Int) {a : Nat} (h : a < n) : getQ (sq n G) a = cells n (G a) := by
  unfold getQ
  rw [sq_at G h]
  rfl
theorem sq_set {n : Nat} (G : Nat → Nat → Int) {a : Nat} (g : Nat → Int) (h : a < n) : setQ (sq n G) a (cells n g) = sq n fun f => if f = a then g else G f := by
  unfold setQ
  refine List.ext_getElem? fun j => ?_
  by_cases hj : j < n
  · rw [sq_at _ hj]
    by_cases hja : j = a
    · subst hja
      rw [List.getElem?_set_self (by rw [sq_len]; exact hj), if_pos rfl]
    · rw [List.getElem?_set_ne (fun h => hja h.symm), sq_at _ hj, if_neg hja]
  · rw [List.getElem?_eq_none (by rw [List.length_set, sq_len]; omega), List.getElem?_eq_none (by rw [sq_len]; omega)]
theorem sq_ext {n : Nat} {G H : Nat → Nat → Int} (e : ∀ f t, f < n → t < n → G f t = H f t) : sq n G = sq n H := by
  unfold sq
  exact List.map_congr_left fun j hj => cells_ext fun t ht => e j t (List.mem_range.1 hj) ht
/-- the state behind some payments -/
def SI (n : Nat) (l : List (List DV)) (i : Nat) : St := S290 n l i (X0 n (l.take i)) (Y0 n (l.take i)) (sq n fun f t => sumL (dQ f t) (l.take i))
theorem round290 {n : Nat} (h1 : 1 ≤ n) (h6 : n ≤ 6) (L m : Nat) {l : List (List DV)} (hl : l.length ≤ 1000) (hp : ∀ e ∈ l, PO n e) {i : Nat} (hi : i < l.length) (k : Kont) :
    LB tab noSp lm L (m+4) h290 c29l0 (SI n l i) k = k .nrm (SI n l (i + 1)) := by
  unfold SI
  rw [s290 h1 h6 L m l _ _ (sq_len n _) i k]
  unfold stepR
  have hP := hp _ (List.getElem_mem hi)
  have hb : ∀ φ : List DV → Int, (∀ e, PO n e → -1099511627776 ≤ φ e ∧ φ e ≤ 1099511627776) → -1099511627776000 ≤ sumL φ (l.take i) ∧ sumL φ (l.take i) ≤ 1099511627776000 := fun φ hφ => by
    have := sumL_bound (l := l.take i) (φ := φ) (B := 1099511627776) fun e he => hφ e (hp e (List.mem_of_mem_take he))
    have hlen : (l.take i).length ≤ 1000 := by rw [List.length_take]; omega
    omega
  have bM := fun j => hb (dM j) fun e he => he.dM j
  have bS := fun j => hb (dS j) fun e he => by have := he.dS j; omega
  have bQ := fun f t => hb (dQ f t) fun e he => he.dQ f t
  rw [lt_dec hi, cond_true, look_at hi, hP.z, cond_true, wrap_succ (by omega)]
  generalize he : l[i] = e at *
  obtain ⟨f, hf⟩ : ∃ f : Nat, pF e = (f : Nat) := ⟨(pF e).toNat, by have := hP.f0; omega⟩
  obtain ⟨t, ht⟩ : ∃ t : Nat, pT e = (t : Nat) := ⟨(pT e).toNat, by have := hP.t0; omega⟩
  have hfn : f < n := by have := hP.f1; omega
  have htn : t < n := by have := hP.t1; omega
  have hne : f ≠ t := by have := hP.ne; omega
  have ha0 := hP.a0
  have ha1 := hP.a1
  have tk : ∀ φ : List DV → Int, sumL φ (l.take (i + 1)) = sumL φ (l.take i) + φ e := fun φ => by rw [sumL_take hi, he]
  have eX : X0 n (l.take (i + 1)) = cells n fun j => if j = t then (if t = f then sumL (dM f) (l.take i) - pA e else sumL (dM t) (l.take i)) + pA e else if j = f then sumL (dM f) (l.take i) - pA e else sumL (dM j) (l.take i) := by
    unfold X0
    refine cells_ext fun j hj => ?_
    rw [tk, if_neg (fun h : t = f => hne h.symm)]
    have hM : dM j e = (if t = j then pA e else 0) - (if f = j then pA e else 0) := by
      unfold dM
      rw [hf, ht]
      simp only [Int.natCast_inj]
    rw [hM]
    by_cases c1 : j = t
    · rw [if_pos c1.symm, if_pos c1, if_neg (show ¬ f = j by omega), c1]
      omega
    · rw [if_neg c1, if_neg (fun h => c1 h.symm)]
      by_cases c2 : j = f
      · rw [if_pos c2.symm, if_pos c2, c2]
        omega
      · rw [if_neg c2, if_neg (fun h => c2 h.symm)]
        omega
  have eQ : (sq n fun f t => sumL (dQ f t) (l.take (i + 1))) = sq n fun a => if a = t then (fun b => if b = f then (if t = f then (fun j => if j = t then sumL (dQ f t) (l.take i) + pA e else sumL (dQ f j) (l.take i)) else (fun j => sumL (dQ t j) (l.take i))) f - pA e else (if t = f then (fun j => if j = t then sumL (dQ f t) (l.take i) + pA e else sumL (dQ f j) (l.take i)) else (fun j => sumL (dQ t j) (l.take i))) b) else if a = f then (fun b => if b = t then sumL (dQ f t) (l.take i) + pA e else sumL (dQ f b) (l.take i)) else fun b => sumL (dQ a b) (l.take i) := by
    refine sq_ext fun a b ha hb => ?_
    rw [tk, if_neg (fun h : t = f => hne h.symm)]
    have hQ : dQ a b e = (if a = f ∧ b = t then pA e else 0) - (if a = t ∧ b = f then pA e else 0) := by
      unfold dQ
      rw [hf, ht]
      have q1 : (((f : Nat) : Int) = (a : Nat) ∧ ((t : Nat) : Int) = (b : Nat)) ↔ (a = f ∧ b = t) := by omega
      have q2 : (((f : Nat) : Int) = (b : Nat) ∧ ((t : Nat) : Int) = (a : Nat)) ↔ (a = t ∧ b = f) := by omega
      simp only [q1, q2]
    rw [hQ]
    by_cases c1 : a = t
    · subst c1
      rw [if_pos rfl, if_neg (by omega)]
      by_cases c2 : b = f
      · subst c2
        rw [if_pos ⟨rfl, rfl⟩]
        simp only [if_true]
        omega
      · rw [if_neg (by omega)]
        simp only [if_neg c2]
        omega
    · rw [if_neg c1, if_neg (fun h : a = t ∧ b = f => c1 h.1)]
      by_cases c2 : a = f
      · subst c2
        rw [if_pos rfl]
        by_cases c3 : b = t
        · subst c3
          rw [if_pos ⟨rfl, rfl⟩]
          simp only [if_true]
          omega
        · rw [if_neg (by omega)]
          simp only [if_neg c3]
          omega
      · rw [if_neg c2, if_neg (by omega)]
        omega
  have b1 := bM f
  have b2 := bM t
  have b3 := bQ f t
  have b4 := bQ t f
  have b5 := bS f
  rw [hf, ht]
  unfold X0
  have w1 : ∀ x : Int, -1099511627776000 ≤ x → x ≤ 1099511627776000 → -9223372036854775808 ≤ x - pA e ∧ x - pA e ≤ 9223372036854775807 ∧ -9223372036854775808 ≤ x + pA e ∧ x + pA e ≤ 9223372036854775807 := fun x h1 h2 => by omega
  rw [upd_cells rfl hfn (w1 _ b1.1 b1.2).1 (w1 _ b1.1 b1.2).2.1]
  have b2' : -1099511627776000 ≤ (if t = f then sumL (dM f) (l.take i) - pA e else sumL (dM t) (l.take i)) ∧ (if t = f then sumL (dM f) (l.take i) - pA e else sumL (dM t) (l.take i)) ≤ 1099511627776000 := by
    rw [if_neg (fun h => hne h.symm)]
    exact b2
  rw [upd_cells (h := fun x => x + pA e) rfl htn (w1 _ b2'.1 b2'.2).2.2.1 (w1 _ b2'.1 b2'.2).2.2.2]
  rw [decide_eq_true (show (0 : Int) ≤ ((f : Nat) : Int) by omega), cond_true, decide_eq_true (show ((f : Nat) : Int) < (n : Int) by omega), cond_true, Int.toNat_natCast, Nat.zero_add, pickN_at hfn, Nat.zero_add, sq_get _ hfn]
  rw [upd_cells (h := fun x => x + pA e) rfl htn (w1 _ b3.1 b3.2).2.2.1 (w1 _ b3.1 b3.2).2.2.2]
  rw [decide_eq_true (show (0 : Int) ≤ ((t : Nat) : Int) by omega), cond_true, decide_eq_true (show ((t : Nat) : Int) < (n : Int) by omega), cond_true, Int.toNat_natCast, Nat.zero_add, pickN_at htn, Nat.zero_add, sq_set _ _ hfn, sq_get _ htn]
  have b4' : -1099511627776000 ≤ (if t = f then (fun j => if j = t then sumL (dQ f t) (l.take i) + pA e else sumL (dQ f j) (l.take i)) else (fun j => sumL (dQ t j) (l.take i))) f ∧ (if t = f then (fun j => if j = t then sumL (dQ f t) (l.take i) + pA e else sumL (dQ f j) (l.take i)) else (fun j => sumL (dQ t j) (l.take i))) f ≤ 1099511627776000 := by
    rw [if_neg (fun h => hne h.symm)]
    exact b4
  rw [upd_cells (h := fun x => x - pA e) rfl hfn (w1 _ b4'.1 b4'.2).1 (w1 _ b4'.1 b4'.2).2.1, sq_set _ _ htn]
  have eY : Y0 n (l.take (i + 1)) = cond (pC e != 3) (cells n fun j => if j = f then sumL (dS f) (l.take i) + pA e else sumL (dS j) (l.take i)) (Y0 n (l.take i)) := by
    unfold Y0
    cases hc : (pC e != 3) with
    | true =>
      rw [cond_true]
      have hc' : pC e ≠ 3 := bne_iff_ne.1 hc
      refine cells_ext fun j hj => ?_
      rw [tk]
      have hS : dS j e = if f = j then pA e else 0 := by
        unfold dS
        rw [hf]
        simp only [Int.natCast_inj, ne_eq, hc', not_false_eq_true, and_true]
      rw [hS]
      by_cases c : j = f
      · rw [if_pos c.symm, if_pos c, c]
      · rw [if_neg c, if_neg (fun h => c h.symm)]
        omega
    | false =>
      rw [cond_false]
      have hc' : pC e = 3 := bne_eq_false_iff_eq.1 hc
      refine cells_ext fun j hj => ?_
      rw [tk]
      have hS : dS j e = 0 := by
        unfold dS
        rw [if_neg (by omega)]
      rw [hS]
      omega
  rw [show (cells n fun j => sumL (dM j) (l.take (i + 1))) = X0 n (l.take (i + 1)) from rfl, eX, eQ, eY]
  cases hc : (pC e != 3) with
  | true =>
    rw [cond_true, cond_true]
    unfold Y0
    rw [upd_cells (h := fun x => x + pA e) rfl hfn (w1 _ b5.1 b5.2).2.2.1 (w1 _ b5.1 b5.2).2.2.2]
  | false => rfl
theorem loop290 {n : Nat} (h1 : 1 ≤ n) (h6 : n ≤ 6) (L m : Nat) {l : List (List DV)} (hl : l.length ≤ 1000) (hp : ∀ e ∈ l, PO n e) :
    LoopOk (LB tab noSp lm L (m+4) h290 c29l0) (SI n l 0) (.ex 0, E290 n (X0 n l) (Y0 n l) (Q0 n l)) := by
  refine loop_meas (fun i : Nat => SI n l i) (fun i => l.length - i) (fun i => i ≤ l.length) (fun _ => (.ex 0, E290 n (X0 n l) (Y0 n l) (Q0 n l))) (fun i hs => ?_) 0 (Nat.zero_le _)
  by_cases hi : i < l.length
  · left
    exact ⟨i + 1, hi, by omega, rfl, fun k => round290 h1 h6 L m hl hp hi k⟩
  · right
    have hin : i = l.length := by omega
    subst hin
    refine ⟨by simp, fun k => ?_⟩
    unfold SI
    rw [s290 h1 h6 L m l _ _ (sq_len n _) _ k]
    unfold stepR
    rw [lt_dec_self, cond_false, List.take_length]
    rfl
/-- what is known of moved -/
def movS : FSpec where
  D ds := ∃ n x, ds = [.int .i64 ((n : Nat) : Int), x] ∧ 1 ≤ n ∧ n ≤ 6 ∧ Sl 7 x ∧ (rowsA x).length ≤ 1000 ∧ ∀ e ∈ rowsA x, PO n e
  val ds := match ds with | [.int _ n, x] => some (movR (X0 n.toNat (rowsA x)) (Y0 n.toNat (rowsA x)) (Q0 n.toNat (rowsA x))) | _ => none
theorem Sl.gen2' {P : Program} {f : FuncId} {sz : Nat} {d x : DV} {r : DV} (hd : noMv [d] = true) (hx : Sl sz x) (h : EntX P f [d, .sla false sz (rowsA x)] r) : EntX P f [d, x] r :=
  h.args (LLe.cons (DLe.refl _) (LLe.cons hx.le LLe.nil)) (by cases d <;> first | rfl | exact hd) (by cases d <;> first | rfl | exact hd)
theorem mov29 : movS.ok Try.prog 29 := fun ds r hD hv => by
  obtain ⟨n, x, rfl, h1, h6, hx, hl, hp⟩ := hD
  cases hv
  rw [Int.toNat_natCast]
  refine Sl.gen2' rfl hx ?_
  refine spec_run (lsp := lm) tab_ok noSp_ok 20 (0 + 12) ((t29 h1 h6 0 (rowsA x)).trans ?_)
  exact need_pos (loop290 h1 h6 20 (0 + 8) hl hp)
end Go.Proofs.Ythjcfiekdejdgaa
