/- Loops that collect: each round appends a row, or none; the new object lies at one of two sites in turn. No condition. -/
import Derived.Test.YtjejjokdbbedlaaVmS
namespace Go.Proofs.Ytjejjokdbbedlaa.Vm
open Go Go.RowKit
set_option linter.unusedVariables false
set_option linter.unusedSimpArgs false
set_option linter.unusedSectionVars false

def parB : Nat → Bool
  | 0 => true
  | n + 1 => !parB n
/-- the rows of those rounds that append -/
def outN (n : Nat) (P : Nat → Bool) (row : Nat → List DV) : List (List DV) := ((List.range n).filter P).map row
theorem outN_succ (n : Nat) (P : Nat → Bool) (row : Nat → List DV) : outN (n + 1) P row = outN n P row ++ cond (P n) [row n] [] := by
  unfold outN
  rw [List.range_succ, List.filter_append, List.map_append]
  cases h : P n <;> simp [h]
theorem outN_len (n : Nat) (P : Nat → Bool) (row : Nat → List DV) : (outN n P row).length ≤ n := by
  unfold outN
  rw [List.length_map]
  exact Nat.le_trans (List.length_filter_le _ _) (by rw [List.length_range]; exact Nat.le_refl n)
theorem outN_congr {n : Nat} {P Q : Nat → Bool} {r q : Nat → List DV} (h : ∀ i, i < n → P i = Q i) (h2 : ∀ i, i < n → r i = q i) : outN n P r = outN n Q q := by
  induction n with
  | zero => rfl
  | succ n ih => rw [outN_succ, outN_succ, ih (fun i hi => h i (by omega)) (fun i hi => h2 i (by omega)), h n (by omega), h2 n (by omega)]
def parV (s s' sz : Nat) : List (List DV) → AV
  | [] => .d .nilsl
  | _ :: t => .aref (cond (parB t.length) s s') sz 0 (t.length + 1)
def parO1 (el sz : Nat) : List (List DV) → Option Ob
  | [] => none
  | a :: t => cond (parB t.length) (some (.dat el sz (a :: t))) none
def parO2 (el sz : Nat) : List (List DV) → Option Ob
  | [] => none
  | a :: t => cond (parB t.length) none (some (.dat el sz (a :: t)))
theorem par_cases {s s' el sz : Nat} {O : List (List DV)} {M : AV → Option Ob → Option Ob → Prop} (hA : O = [] → M (.d .nilsl) none none)
    (hB : O ≠ [] → parB (O.length - 1) = true → M (.aref s sz 0 O.length) (some (.dat el sz O)) none)
    (hC : O ≠ [] → parB (O.length - 1) = false → M (.aref s' sz 0 O.length) none (some (.dat el sz O))) : M (parV s s' sz O) (parO1 el sz O) (parO2 el sz O) := by
  match O with
  | [] => exact hA rfl
  | a :: t =>
    cases h : parB t.length with
    | true =>
      simp only [parV, parO1, parO2, h, cond_true]
      exact hB (by simp) h
    | false =>
      simp only [parV, parO1, parO2, h, cond_false]
      exact hC (by simp) h
theorem par_A {s s' el sz : Nat} (r : List DV) : parV s s' sz ([] ++ [r]) = .aref s sz 0 1 ∧ parO1 el sz ([] ++ [r]) = some (.dat el sz [r]) ∧ parO2 el sz ([] ++ [r]) = none := ⟨rfl, rfl, rfl⟩
theorem par_B {s s' el sz : Nat} {O : List (List DV)} (hO : O ≠ []) (hp : parB (O.length - 1) = true) (r : List DV) :
    parV s s' sz (O ++ [r]) = .aref s' sz 0 (O ++ [r]).length ∧ parO1 el sz (O ++ [r]) = none ∧ parO2 el sz (O ++ [r]) = some (.dat el sz (O ++ [r])) := by
  match O, hO with
  | a :: t, _ =>
    have hp' : parB t.length = true := hp
    have h2 : parB (t ++ [r]).length = false := by
      rw [List.length_append, List.length_singleton]
      show (!parB t.length) = false
      rw [hp']
      rfl
    simp only [List.cons_append, parV, parO1, parO2, h2, cond_false, List.length_cons, and_self]
theorem par_C {s s' el sz : Nat} {O : List (List DV)} (hO : O ≠ []) (hp : parB (O.length - 1) = false) (r : List DV) :
    parV s s' sz (O ++ [r]) = .aref s sz 0 (O ++ [r]).length ∧ parO1 el sz (O ++ [r]) = some (.dat el sz (O ++ [r])) ∧ parO2 el sz (O ++ [r]) = none := by
  match O, hO with
  | a :: t, _ =>
    have hp' : parB t.length = false := hp
    have h2 : parB (t ++ [r]).length = true := by
      rw [List.length_append, List.length_singleton]
      show (!parB t.length) = true
      rw [hp']
      rfl
    simp only [List.cons_append, parV, parO1, parO2, h2, cond_true, List.length_cons, and_self]
theorem par_B0 {s s' el sz : Nat} {O : List (List DV)} (hO : O ≠ []) (hp : parB (O.length - 1) = true) :
    parV s s' sz O = .aref s sz 0 O.length ∧ parO1 el sz O = some (.dat el sz O) ∧ parO2 el sz O = none := by
  match O, hO with
  | a :: t, _ =>
    have hp' : parB t.length = true := hp
    simp only [parV, parO1, parO2, hp', cond_true, List.length_cons, and_self]
theorem par_C0 {s s' el sz : Nat} {O : List (List DV)} (hO : O ≠ []) (hp : parB (O.length - 1) = false) :
    parV s s' sz O = .aref s' sz 0 O.length ∧ parO1 el sz O = none ∧ parO2 el sz O = some (.dat el sz O) := by
  match O, hO with
  | a :: t, _ =>
    have hp' : parB t.length = false := hp
    simp only [parV, parO1, parO2, hp', cond_false, List.length_cons, and_self]
/-- what such a loop comes to, as its spec tells -/
def collR (E : AV → Option Ob → Option Ob → St) (s s' el sz : Nat) (O : List (List DV)) : LR :=
  .br O.isEmpty (.one (.ex 0) (E (.d .nilsl) none none))
    (.br (parB (O.length - 1)) (.one (.ex 0) (E (.aref s sz 0 O.length) (some (.dat el sz O)) none)) (.one (.ex 0) (E (.aref s' sz 0 O.length) none (some (.dat el sz O)))))
/-- a loop that collects: the rounds in three forms -/
theorem loop_coll {f : St → Kont → Option DV} (S : AV → Nat → Option Ob → Option Ob → St) (E : AV → Option Ob → Option Ob → St) {s s' el sz : Nat} (N : Nat) (P : Nat → Bool) (row : Nat → List DV)
    (hA : ∀ i, i < N → ∀ k, f (S (.d .nilsl) i none none) k = cond (P i) (k .nrm (S (.aref s sz 0 1) (i + 1) (some (.dat el sz [row i])) none)) (k .nrm (S (.d .nilsl) (i + 1) none none)))
    (hB : ∀ i, i < N → ∀ O : List (List DV), O.length ≤ i → ∀ k, f (S (.aref s sz 0 O.length) i (some (.dat el sz O)) none) k =
      cond (P i) (k .nrm (S (.aref s' sz 0 (O ++ [row i]).length) (i + 1) none (some (.dat el sz (O ++ [row i]))))) (k .nrm (S (.aref s sz 0 O.length) (i + 1) (some (.dat el sz O)) none)))
    (hC : ∀ i, i < N → ∀ O : List (List DV), O.length ≤ i → ∀ k, f (S (.aref s' sz 0 O.length) i none (some (.dat el sz O))) k =
      cond (P i) (k .nrm (S (.aref s sz 0 (O ++ [row i]).length) (i + 1) (some (.dat el sz (O ++ [row i]))) none)) (k .nrm (S (.aref s' sz 0 O.length) (i + 1) none (some (.dat el sz O)))))
    (eA : ∀ k, f (S (.d .nilsl) N none none) k = k (.ex 0) (E (.d .nilsl) none none))
    (eB : ∀ O : List (List DV), ∀ k, f (S (.aref s sz 0 O.length) N (some (.dat el sz O)) none) k = k (.ex 0) (E (.aref s sz 0 O.length) (some (.dat el sz O)) none))
    (eC : ∀ O : List (List DV), ∀ k, f (S (.aref s' sz 0 O.length) N none (some (.dat el sz O))) k = k (.ex 0) (E (.aref s' sz 0 O.length) none (some (.dat el sz O)))) :
    LoopOk f (S (.d .nilsl) 0 none none) (.ex 0, E (parV s s' sz (outN N P row)) (parO1 el sz (outN N P row)) (parO2 el sz (outN N P row))) := by
  refine loop_rounds (fun i => S (parV s s' sz (outN i P row)) i (parO1 el sz (outN i P row)) (parO2 el sz (outN i P row))) (fun _ => (.ex 0, E (parV s s' sz (outN N P row)) (parO1 el sz (outN N P row)) (parO2 el sz (outN N P row)))) N (fun i hi => .inl ⟨fun k => ?_, rfl⟩) ⟨by simp, fun k => ?_⟩ 0 (Nat.zero_le _)
  · have hl := outN_len i P row
    rw [outN_succ]
    generalize outN i P row = O at *
    by_cases hO : O = []
    · subst hO
      refine (hA i hi k).trans ?_
      cases P i with
      | true => rfl
      | false => rfl
    · cases hp : parB (O.length - 1) with
      | true =>
        have h0 := par_B0 (s := s) (s' := s') (el := el) (sz := sz) hO hp
        have h1 := par_B (s := s) (s' := s') (el := el) (sz := sz) hO hp (row i)
        rw [h0.1, h0.2.1, h0.2.2, hB i hi O hl k]
        cases P i with
        | true => rw [cond_true, cond_true, h1.1, h1.2.1, h1.2.2]
        | false => rw [cond_false, cond_false, List.append_nil, h0.1, h0.2.1, h0.2.2]
      | false =>
        have h0 := par_C0 (s := s) (s' := s') (el := el) (sz := sz) hO hp
        have h1 := par_C (s := s) (s' := s') (el := el) (sz := sz) hO hp (row i)
        rw [h0.1, h0.2.1, h0.2.2, hC i hi O hl k]
        cases P i with
        | true => rw [cond_true, cond_true, h1.1, h1.2.1, h1.2.2]
        | false => rw [cond_false, cond_false, List.append_nil, h0.1, h0.2.1, h0.2.2]
  · generalize outN N P row = O at *
    by_cases hO : O = []
    · subst hO
      exact eA k
    · cases hp : parB (O.length - 1) with
      | true =>
        have h0 := par_B0 (s := s) (s' := s') (el := el) (sz := sz) hO hp
        rw [h0.1, h0.2.1, h0.2.2]
        exact eB O k
      | false =>
        have h0 := par_C0 (s := s) (s' := s') (el := el) (sz := sz) hO hp
        rw [h0.1, h0.2.1, h0.2.2]
        exact eC O k
/-- what follows such a loop, where its spec is asked -/
theorem collR_run {f : St → Kont → Option DV} {st : St} {E : AV → Option Ob → Option Ob → St} {s s' el sz : Nat} {O : List (List DV)} (h : LoopOk f st (.ex 0, E (parV s s' sz O) (parO1 el sz O) (parO2 el sz O))) {r1 r2 r3 r : Option DV} (h1 : O = [] → r1 = r) (h2 : O ≠ [] → r2 = r) (h3 : O ≠ [] → r3 = r) :
    cond O.isEmpty (need (LoopOk f st (.ex 0, E (.d .nilsl) none none)) r1) (cond (parB (O.length - 1)) (need (LoopOk f st (.ex 0, E (.aref s sz 0 O.length) (some (.dat el sz O)) none)) r2) (need (LoopOk f st (.ex 0, E (.aref s' sz 0 O.length) none (some (.dat el sz O)))) r3)) = r := by
  by_cases hO : O = []
  · subst hO
    exact (need_pos h).trans (h1 rfl)
  · have he : O.isEmpty = false := by cases O with | nil => exact absurd rfl hO | cons a t => rfl
    rw [he, cond_false]
    cases hp : parB (O.length - 1) with
    | true =>
      have h0 := par_B0 (s := s) (s' := s') (el := el) (sz := sz) hO hp
      rw [h0.1, h0.2.1, h0.2.2] at h
      exact (need_pos h).trans (h2 hO)
    | false =>
      have h0 := par_C0 (s := s) (s' := s') (el := el) (sz := sz) hO hp
      rw [h0.1, h0.2.1, h0.2.2] at h
      exact (need_pos h).trans (h3 hO)
theorem room_ok {n b : Nat} (hn : n ≤ 1000000) (hb : b ≤ 1000) : decide (n * b ≤ room ∧ n ≤ room) = true := by
  refine decide_eq_true ⟨?_, ?_⟩
  · have : n * b ≤ 1000000 * 1000 := Nat.mul_le_mul hn hb
    unfold room
    omega
  · unfold room
    omega
/-- what such a function hands back, told as data -/
theorem EntX.coll {P : Program} {f : FuncId} {ds : List DV} {el sz : Nat} {O : List (List DV)} (h : EntX P f ds (cond O.isEmpty .nilsl (.sl (.own el) sz O))) : EntX P f ds (.sla false sz O) := by
  cases O with
  | nil => exact EntX.res h (DLe.nil _ _) rfl
  | cons a t => exact EntX.res (r := .sl (.own el) sz (a :: t)) h (DLe.sl _ _ _) rfl
end Go.Proofs.Ytjejjokdbbedlaa.Vm
