/- A law whose function the pure machine brings to true for all data of its parameters' kinds: the row's contract. No condition. -/
import Derived.Test.YtjejjokdbbedlaaVmL
import Derived.WalkKit
import Derived.ProofKit
import Derived.OpenShut
import Derived.Carry
namespace Go.Proofs.Ytjejjokdbbedlaa.Vm
open Go Go.RowKit Go.ChangeShapes Go.WideShapes Go.ChangeAt
set_option linter.unusedVariables false
set_option linter.unusedSimpArgs false
set_option linter.unusedSectionVars false

/-- kinds of types: how their values are read -/
inductive Kd where
  | int (k : IntKind)
  | bool
  | slice (e : Kd)
  | struct (fs : List Kd)
mutual
def Kd.size : Kd → Nat
  | .int _ => 1
  | .bool => 1
  | .slice _ => 1
  | .struct fs => sizes fs
def sizes : List Kd → Nat
  | [] => 0
  | K :: l => K.size + sizes l
end
mutual
/-- a row of cells of a kind -/
def KC : Kd → List DV → Prop
  | .int k, xs => ∃ n, xs = [.int k n] ∧ (Lit.int k n).wf = true
  | .bool, xs => ∃ b, xs = [.bool b]
  | .slice e, xs => ∃ es, xs = [.sla false e.size es] ∧ ∀ x ∈ es, KC e x
  | .struct fs, xs => KCs fs xs
def KCs : List Kd → List DV → Prop
  | [], xs => xs = []
  | K :: l, xs => ∃ a b, xs = a ++ b ∧ KC K a ∧ KCs l b
end
/-- a value of a kind -/
def KV (K : Kd) (x : DV) : Prop :=
  match K with
  | .struct fs => ∃ xs, x = .agg xs ∧ KCs fs xs
  | K => KC K [x]
def KVs : List Kd → List DV → Prop
  | [], xs => xs = []
  | K :: l, xs => ∃ x xs', xs = x :: xs' ∧ KV K x ∧ KVs l xs'

def kindsF (P : Program) (g : TypeId → Option Kd) : Nat → List Field → Option (List Kd)
  | _, [] => some []
  | off, f :: fs =>
    match g f.type with
    | some K => if f.offset = off ∧ P.cellsOf f.type = K.size then (kindsF P g (off + K.size) fs).map (K :: ·) else none
    | none => none
def kindOf (P : Program) : Nat → TypeId → Option Kd
  | 0, _ => none
  | n + 1, t =>
    match P.underlying t with
    | some .bool => some .bool
    | some (.int k) => some (.int k)
    | some (.slice e) =>
      match kindOf P n e with
      | some K => if P.cellsOf e = K.size ∧ 0 < K.size then some (.slice K) else none
      | none => none
    | some (.struct fs) =>
      match kindsF P (kindOf P n) 0 fs.toList with
      | some Ks => if P.cellsOf t = sizes Ks then some (.struct Ks) else none
      | none => none
    | _ => none

mutual
theorem KC.length : ∀ (K : Kd) (xs : List DV), KC K xs → xs.length = K.size
  | .int k, xs, h => by simp only [KC] at h; obtain ⟨n, rfl, _⟩ := h; simp [Kd.size]
  | .bool, xs, h => by simp only [KC] at h; obtain ⟨b, rfl⟩ := h; simp [Kd.size]
  | .slice e, xs, h => by
    simp only [KC] at h
    obtain ⟨es, rfl, _⟩ := h; simp [Kd.size]
  | .struct fs, xs, h => by simp only [KC] at h; simp only [Kd.size]; exact KCs.length fs xs h
theorem KCs.length : ∀ (l : List Kd) (xs : List DV), KCs l xs → xs.length = sizes l
  | [], xs, h => by simp only [KCs] at h; subst h; simp [sizes]
  | K :: l, xs, h => by
    simp only [KCs] at h
    obtain ⟨a, b, rfl, h1, h2⟩ := h
    simp [sizes, KC.length K a h1, KCs.length l b h2]
end

section
variable {P : Program} {H : Type} {enc : TypeId × Value → H} {w : World}

theorem RdL.append {S : Nat → Nat → Prop} : ∀ (l m : List DV) (us vs : List Value), RdL w S l us → RdL w S m vs → RdL w S (l ++ m) (us ++ vs) := call_op.RdL_append

theorem cells_at {base : Nat} {a : Addr} {n : Nat} {l : List Value} (h : w.cells? base a n = some l) : l.length = n ∧ ∀ j, j < n → ∃ u, l[j]? = some u ∧ w.cell? (a.add j) = some u := by
  unfold World.cells? at h
  split at h
  · obtain ⟨h1, h2⟩ := mapM_at' h
    have hl : l.length = n := by simpa using h1
    refine ⟨hl, fun j hj => ?_⟩
    have hj' : j < l.length := by omega
    exact ⟨l[j], List.getElem?_eq_getElem hj', h2 j j _ (by simp [hj]) (List.getElem?_eq_getElem hj')⟩
  · cases h

theorem trod_kind {sp : Nat → Bool} {held : Bool} : ∀ (n : Nat) (t : TypeId) (K : Kd), kindOf P n t = some K → ∀ (fuel : Nat) (cs : List Value) (r : DataW H × List MemPlace),
    DataW.trod enc P w 0 sp held fuel t cs = some r → ∃ xs, KC K xs ∧ RdL w (fun b _ => b < w.heap.size) xs cs
  | 0, t, K, hk, _, _, _, _ => by simp [kindOf] at hk
  | n + 1, t, K, hk, fuel, cs, r, h => by
    cases fuel with
    | zero => simp [DataW.trod] at h
    | succ fuel =>
      simp only [kindOf] at hk
      cases hu : P.underlying t with
      | none => simp [hu] at hk
      | some d =>
        rw [hu] at hk
        cases d <;> simp only [reduceCtorEq] at hk
        case bool =>
          simp only [Option.some.injEq] at hk
          subst hk
          simp only [DataW.trod, hu] at h
          split at h <;> try (simp_all; done)
          rename_i b hcs
          exact ⟨[.bool b], by simp only [KC]; exact ⟨b, rfl⟩, by simp only [RdL, RdD]; exact ⟨_, [], rfl, rfl, rfl⟩⟩
        case int k =>
          simp only [Option.some.injEq] at hk
          subst hk
          simp only [DataW.trod, hu] at h
          split at h <;> try (simp_all; done)
          rename_i k1 k2 m heq
          simp only [Option.some.injEq, TypeDesc.int.injEq] at heq
          subst heq
          split at h
          · rename_i hc
            obtain ⟨rfl, hwf⟩ := hc
            exact ⟨[.int _ m], by simp only [KC]; exact ⟨m, rfl, hwf⟩, by simp only [RdL, RdD]; exact ⟨_, [], rfl, rfl, rfl⟩⟩
          · cases h
        case slice e =>
          cases hke : kindOf P n e with
          | none => simp [hke] at hk
          | some Ke =>
            simp only [hke] at hk
            split at hk
            · rename_i hsz
              simp only [Option.some.injEq] at hk
              subst hk
              simp only [DataW.trod, hu] at h
              split at h <;> try (simp_all; done)
              · exact ⟨[.sla false Ke.size []], by simp only [KC]; exact ⟨[], rfl, by simp⟩, by simp only [RdL, RdD]; exact ⟨_, [], rfl, .inl ⟨rfl, trivial⟩, rfl⟩⟩
              · rename_i e' ad len cap heq
                simp only [Option.some.injEq, TypeDesc.slice.injEq] at heq
                subst heq
                split at h
                · rename_i hc
                  obtain ⟨_, hlc, _⟩ := hc
                  simp only [Option.bind_eq_some_iff] at h
                  obtain ⟨elems, hel, _⟩ := h
                  obtain ⟨h1, h2⟩ := mapM_at' hel
                  have hlen : elems.length = len := by simpa using h1
                  have hex : ∀ i, i < len → ∃ xs, KC Ke xs ∧ ∃ l, w.cells? 0 (ad.add (i * P.cellsOf e)) (P.cellsOf e) = some l ∧ RdL w (fun b _ => b < w.heap.size) xs l := by
                    intro i hi
                    have := h2 i i _ (by simp [hi]) (List.getElem?_eq_getElem (by omega : i < elems.length))
                    simp only [Option.bind_eq_some_iff] at this
                    obtain ⟨l, hl, ht⟩ := this
                    obtain ⟨xs, hx1, hx2⟩ := trod_kind n e Ke hke fuel l _ ht
                    exact ⟨xs, hx1, l, hl, hx2⟩
                  let es : List (List DV) := (List.range len).map fun i => if hi : i < len then (hex i hi).choose else []
                  have hes : ∀ i x, es[i]? = some x → KC Ke x ∧ ∃ l, w.cells? 0 (ad.add (i * P.cellsOf e)) (P.cellsOf e) = some l ∧ RdL w (fun b _ => b < w.heap.size) x l := by
                    intro i x hx
                    have hi : i < len := by
                      have := (List.getElem?_eq_some_iff.1 hx).1
                      simpa [es] using this
                    simp only [es, List.getElem?_map, List.getElem?_range hi, Option.map_some, Option.some.injEq, hi, dif_pos] at hx
                    subst hx
                    exact (hex i hi).choose_spec
                  have hesl : es.length = len := by simp [es]
                  refine ⟨[.sla false Ke.size es], by simp only [KC]; exact ⟨es, rfl, fun x hx => by
                    obtain ⟨i, hi, rfl⟩ := List.getElem_of_mem hx
                    exact (hes i _ (List.getElem?_eq_getElem hi)).1⟩, ?_⟩
                  simp only [RdL, RdD]
                  refine ⟨_, [], rfl, .inr ⟨ad, ad.block, ad.off, cap, by rw [hesl], fun h0 => ?_, by omega, (fun h => by cases h), RdE.mk _ _ _ _ fun i x hx => ?_⟩, rfl⟩
                  · obtain ⟨_, l, hl, _⟩ := hes 0 _ (List.getElem?_eq_getElem (by omega : 0 < es.length))
                    obtain ⟨u, _, hu'⟩ := (cells_at hl).2 0 (by omega)
                    simp only [Nat.zero_mul, Addr.add, if_true] at hu'
                    unfold World.cell? at hu'
                    split at hu' <;> try (cases hu'; done)
                    split at hu'
                    · cases hu'
                    · rename_i hsp
                      cases ad with
                      | mk b o sp => cases sp <;> simp_all
                  · obtain ⟨hkx, l, hl, hrl⟩ := hes i x hx
                    have hxl := KC.length Ke x hkx
                    refine ⟨hxl, RdC.mk _ _ _ fun j c hc => ?_⟩
                    have hj : j < x.length := (List.getElem?_eq_some_iff.1 hc).1
                    obtain ⟨u, hu1, hu2⟩ := RdL.at _ _ hrl j c hc
                    obtain ⟨u', hu1', hcell⟩ := (cells_at hl).2 j (by omega)
                    rw [hu1] at hu1'
                    simp only [Option.some.injEq] at hu1'
                    subst hu1'
                    obtain ⟨_, l0, hl0, _⟩ := hes 0 _ (List.getElem?_eq_getElem (by have := (List.getElem?_eq_some_iff.1 hx).1; omega : 0 < es.length))
                    have hsp : ad.spot = none := by
                      obtain ⟨u0, _, hu0⟩ := (cells_at hl0).2 0 (by omega)
                      simp only [Nat.zero_mul, Addr.add, if_true] at hu0
                      unfold World.cell? at hu0
                      split at hu0 <;> try (cases hu0; done)
                      split at hu0
                      · cases hu0
                      · rename_i hsp
                        simpa using hsp
                    obtain ⟨b, o, sp'⟩ := ad
                    simp only at hsp
                    subst hsp
                    rw [add_mk, add_mk, hsz.1] at hcell
                    exact ⟨World.block_lt_of_cell? w ⟨b, o + i * Ke.size + j, none⟩ hcell, u, hcell, hu2⟩
                · cases h
            · cases hk
        case struct fs =>
          cases hkf : kindsF P (kindOf P n) 0 fs.toList with
          | none => simp [hkf] at hk
          | some Ks =>
            simp only [hkf] at hk
            split at hk
            · rename_i hsz
              simp only [Option.some.injEq] at hk
              subst hk
              simp only [DataW.trod, hu] at h
              split at h
              · rename_i hlen
                simp only [Option.map_eq_some_iff] at h
                obtain ⟨ys, hys, _⟩ := h
                have key : ∀ (l : List Field) (off : Nat) (Ks : List Kd) (ys : List (DataW H × List MemPlace)), kindsF P (kindOf P n) off l = some Ks →
                    l.mapM (fun f => DataW.trod enc P w 0 sp held fuel f.type ((cs.drop f.offset).take (P.cellsOf f.type))) = some ys → off + sizes Ks ≤ cs.length →
                    ∃ xs, KCs Ks xs ∧ RdL w (fun b _ => b < w.heap.size) xs ((cs.drop off).take (sizes Ks)) := by
                  intro l
                  induction l with
                  | nil =>
                    intro off Ks ys hk _ _
                    simp only [kindsF, Option.some.injEq] at hk
                    subst hk
                    exact ⟨[], by simp only [KCs], by simp [sizes, RdL]⟩
                  | cons f l ih =>
                    intro off Ks ys hk hm hb
                    simp only [kindsF] at hk
                    cases hf : kindOf P n f.type with
                    | none => simp [hf] at hk
                    | some K =>
                      simp only [hf] at hk
                      split at hk
                      · rename_i hc
                        simp only [Option.map_eq_some_iff] at hk
                        obtain ⟨Ks', hks, rfl⟩ := hk
                        rw [List.mapM_cons] at hm
                        simp only [Option.bind_eq_bind, Option.bind_eq_some_iff, Option.pure_def, Option.some.injEq] at hm
                        obtain ⟨y, hy, ys', hys', rfl⟩ := hm
                        rw [hc.1, hc.2] at hy
                        obtain ⟨a, ha1, ha2⟩ := trod_kind n f.type K hf fuel _ _ hy
                        simp only [sizes] at hb ⊢
                        obtain ⟨b, hb1, hb2⟩ := ih (off + K.size) Ks' ys' hks hys' (by omega)
                        refine ⟨a ++ b, by simp only [KCs]; exact ⟨a, b, rfl, ha1, hb1⟩, ?_⟩
                        rw [List.take_add, List.drop_drop]
                        exact RdL.append _ _ _ _ ha2 hb2
                      · cases hk
                obtain ⟨xs, h1, h2⟩ := key fs.toList 0 Ks ys hkf hys (by omega)
                refine ⟨xs, by simp only [KC]; exact h1, ?_⟩
                rw [List.drop_zero, List.take_of_length_le (by omega)] at h2
                exact h2
              · cases h
            · cases hk

theorem arg_kind {n : Nat} {t : TypeId} {K : Kd} (hk : kindOf P n t = some K) {sp : Nat → Bool} {held : Bool} {base : Nat} {v : Value} {d : DataW H} {p : List MemPlace}
    (hv : Value.okWide P w .any base t v) (h : DataW.Trod enc P w 0 sp held t v d p) : ∃ x, KV K x ∧ RdD w (fun b _ => b < w.heap.size) x v := by
  obtain ⟨fuel, hf⟩ := h
  obtain ⟨xs, h1, h2⟩ := trod_kind n t K hk fuel _ _ hf
  cases n with
  | zero => simp [kindOf] at hk
  | succ n =>
    simp only [kindOf] at hk
    cases hu : P.underlying t with
    | none => simp [hu] at hk
    | some dd =>
      rw [hu] at hk
      have one : (∀ cs, v ≠ .agg cs) → ∀ x, xs = [x] → RdD w (fun b _ => b < w.heap.size) x v := by
        intro hna x hx
        subst hx
        simp only [RdL] at h2
        obtain ⟨u, us, he, hu', hus⟩ := h2
        subst hus
        cases v <;> simp_all [Value.cells]
      cases dd <;> simp only [reduceCtorEq] at hk
      case bool =>
        simp only [Option.some.injEq] at hk; subst hk
        simp only [KC] at h1
        obtain ⟨b, rfl⟩ := h1
        refine ⟨.bool b, by simp only [KV, KC]; exact ⟨b, rfl⟩, one (fun cs he => ?_) _ rfl⟩
        subst he
        simp [Value.okWide, hu, Cell.okWide, Cell.ok] at hv
      case int k =>
        simp only [Option.some.injEq] at hk; subst hk
        simp only [KC] at h1
        obtain ⟨m, rfl, hwf⟩ := h1
        refine ⟨.int k m, by simp only [KV, KC]; exact ⟨m, rfl, hwf⟩, one (fun cs he => ?_) _ rfl⟩
        subst he
        simp [Value.okWide, hu, Cell.okWide, Cell.ok] at hv
      case slice e =>
        split at hk
        · split at hk
          · simp only [Option.some.injEq] at hk; subst hk
            have hna : ∀ cs, v ≠ .agg cs := fun cs he => by
              subst he
              simp [Value.okWide, hu, Cell.okWide, Cell.ok] at hv
            have h1' := h1
            simp only [KC] at h1
            obtain ⟨es, rfl, he⟩ := h1
            exact ⟨_, h1', one hna _ rfl⟩
          · cases hk
        · cases hk
      case struct fs =>
        split at hk
        · split at hk
          · simp only [Option.some.injEq] at hk; subst hk
            simp only [Value.okWide, hu] at hv
            obtain ⟨cs, rfl, _⟩ := hv
            refine ⟨.agg xs, by simp only [KV]; exact ⟨xs, rfl, by simpa only [KC] using h1⟩, ?_⟩
            simp only [RdD]
            exact ⟨cs.toList, by simp, by simpa [Value.cells] using h2⟩
          · cases hk
        · cases hk

theorem args_kind {n : Nat} : ∀ (ts : List TypeId) (Ks : List Kd) (vs : List Value) (ds : List (DataW H)) (p : List MemPlace) (base : Nat) {sp : Nat → Bool} {held : Bool}, mapO (kindOf P n) ts = some Ks →
    DataW.TrodAll enc P w 0 sp held ts vs ds p → (∀ (j : Nat) t v, ts[j]? = some t → vs[j]? = some v → Value.okWide P w .any base t v) → ∃ xs, KVs Ks xs ∧ RdL w (fun b _ => b < w.heap.size) xs vs
  | [], Ks, vs, ds, p, base, sp, held, hm, h, hv => by
    simp only [mapO, Option.some.injEq] at hm
    subst hm
    cases vs with
    | nil => exact ⟨[], by simp only [KVs], by simp only [RdL]⟩
    | cons v vs => simp [DataW.TrodAll] at h
  | t :: ts, Ks, vs, ds, p, base, sp, held, hm, h, hv => by
    simp only [mapO] at hm
    cases hk : kindOf P n t with
    | none => simp [hk] at hm
    | some K =>
      cases hks : mapO (kindOf P n) ts with
      | none => simp [hk, hks] at hm
      | some Ks' =>
        simp only [hk, hks, Option.some.injEq] at hm
        subst hm
        cases vs with
        | nil => simp [DataW.TrodAll] at h
        | cons v vs =>
          cases ds with
          | nil => simp [DataW.TrodAll] at h
          | cons d ds =>
            simp only [DataW.TrodAll] at h
            obtain ⟨p1, q1, h1, h2, _⟩ := h
            obtain ⟨x, hx, hr⟩ := arg_kind hk (hv 0 t v rfl rfl) h1
            obtain ⟨xs, hxs, hrs⟩ := args_kind ts Ks' vs ds q1 base hks h2 fun j t v ht hv' => hv (j + 1) t v (by simpa using ht) (by simpa using hv')
            refine ⟨x :: xs, by simp only [KVs]; exact ⟨x, xs, rfl, hx, hxs⟩, by simp only [RdL]; exact ⟨v, vs, rfl, hr, hrs⟩⟩

theorem trodAll_below (hl : laidOutB P = true) {W W' : World} : ∀ (ts : List TypeId) (vs : List Value) (ds : List (DataW H)) (p : List MemPlace), (∀ t ∈ ts, P.readableRec t = true ∧ t < P.types.size) →
    DataW.TrodAll enc P W 0 (fun _ => true) true ts vs ds p → Below W.heap.size W W' → (∀ x ∈ p, x.block < W.heap.size) → DataW.TrodAll enc P W' 0 (fun b => decide (b < W.heap.size)) true ts vs ds p
  | [], vs, ds, p, _, h, _, _ => by cases vs <;> cases ds <;> simp_all [DataW.TrodAll]
  | t :: ts, vs, ds, p, ht, h, hb, hlt => by
    cases vs with
    | nil => simp [DataW.TrodAll] at h
    | cons v vs =>
      cases ds with
      | nil => simp [DataW.TrodAll] at h
      | cons d ds =>
        simp only [DataW.TrodAll] at h ⊢
        obtain ⟨p1, q1, h1, h2, rfl⟩ := h
        have htt := ht t (by simp)
        exact ⟨p1, q1, Below.trod hl htt.1 htt.2 h1 hb fun x hx => hlt x (by simp [hx]), trodAll_below hl ts vs ds q1 (fun t' ht' => ht t' (by simp [ht'])) h2 hb fun x hx => hlt x (by simp [hx]), rfl⟩

theorem trodAll_length {W : World} {sp : Nat → Bool} : ∀ (ts : List TypeId) (vs : List Value) (ds : List (DataW H)) (p : List MemPlace), DataW.TrodAll enc P W 0 sp true ts vs ds p → ds.length = ts.length
  | [], vs, ds, p, h => by cases vs <;> cases ds <;> simp_all [DataW.TrodAll]
  | t :: ts, vs, ds, p, h => by
    cases vs with
    | nil => simp [DataW.TrodAll] at h
    | cons v vs =>
      cases ds with
      | nil => simp [DataW.TrodAll] at h
      | cons d ds =>
        simp only [DataW.TrodAll] at h
        obtain ⟨p1, q1, h1, h2, rfl⟩ := h
        simp [trodAll_length ts vs ds q1 h2]

/-- a number from 'k' on, or less than nothing -/
theorem int_past (k : Nat) {n : Int} (h : ∀ i : Nat, i < k → n ≠ (i : Int)) : (∃ m : Nat, n = Int.ofNat (m + k)) ∨ ∃ m, n = Int.negSucc m := by
  cases n with
  | ofNat m =>
    refine .inl ⟨m - k, ?_⟩
    have : k ≤ m := by
      false_or_by_contra
      exact h m (by omega) rfl
    congr
    omega
  | negSucc m => exact .inr ⟨m, rfl⟩
theorem of_acall {P : Program} {tab : FuncId → Option AFn} (htab : ∀ f fn', tab f = some fn' → ∃ fn, P.funcs[f]? = some fn ∧ cFn P fn = some fn'.erase) {f : FuncId} {xs : List DV} (h : ∃ n L, acall tab L n f xs = some (.bool true)) : Ent P f xs (.bool true) := by
  obtain ⟨n, L, h⟩ := h
  exact acall_ent htab h
theorem len0 {α : Type} {l : List α} (h : l.length = 0) : l = [] := List.eq_nil_of_length_eq_zero h
theorem len1 {α : Type} {l : List α} (h : l.length = 1) : ∃ a, l = [a] := List.length_eq_one_iff.1 h
theorem len2 {α : Type} {l : List α} (h : l.length = 2) : ∃ a b, l = [a, b] := by
  match l, h with
  | [a, b], _ => exact ⟨a, b, rfl⟩
theorem len3 {α : Type} {l : List α} (h : l.length = 3) : ∃ a b c, l = [a, b, c] := by
  match l, h with
  | [a, b, c], _ => exact ⟨a, b, c, rfl⟩
theorem len4 {α : Type} {l : List α} (h : l.length = 4) : ∃ a b c d, l = [a, b, c, d] := by
  match l, h with
  | [a, b, c, d], _ => exact ⟨a, b, c, d, rfl⟩
theorem len5 {α : Type} {l : List α} (h : l.length = 5) : ∃ a b c d e, l = [a, b, c, d, e] := by
  match l, h with
  | [a, b, c, d, e], _ => exact ⟨a, b, c, d, e, rfl⟩
theorem law_contract (hlaid : laidOutB P = true) {f : FuncId} {fn : Func} {s : ChangeSpec}
    (hvars : s.vars = []) {n : Nat} {Ks : List Kd} (hk : mapO (kindOf P n) fn.params.toList = some Ks) (hread : fn.params.toList.all (fun t => P.readableRec t && decide (t < P.types.size)) = true)
    {rt : TypeId} (hres : fn.resultTypes = #[rt]) (hrt : P.underlying rt = some .bool)
    (hspec : ∀ ds : List (DataW H), ds.length = fn.params.toList.length → (s.fn H (ds ++ [])).results = [.lit (.bool true)] ∧ (s.fn H (ds ++ [])).args = ds ∧ (s.fn H (ds ++ [])).vars = [])
    (hlaw : ∀ xs, KVs Ks xs → Ent P f xs (.bool true))
    (W : World) (base : Nat) (args : Array Value) (ds gs : List (DataW H)) (before : List MemPlace)
    (hval : ∀ (j : Nat) t v, fn.params[j]? = some t → args[j]? = some v → Value.okWide P W .any base t v) (hW : DataW.Whole enc P fn.params.toList s.vars false W args.toList ds gs before) :
    Calls P f args W fun e W' => ∃ v, e = .returned v ∧ s.post enc P fn false true false false W args v W' := by
  have hW' := hW
  have hlt := hW.lt
  obtain ⟨p, q, hA, hV, rfl, hfz, hnd⟩ := hW
  rw [hvars] at hV
  obtain ⟨rfl, rfl⟩ := trodVars_none hV
  obtain ⟨xs, hxs, hrx⟩ := args_kind fn.params.toList Ks args.toList ds p base hk hA fun j t v ht hv => hval j t v (by simpa using ht) (by simpa using hv)
  have hcon := (hlaw xs hxs).2 W args.toList (fun b _ => b < W.heap.size) _ hrx.args fun b o h => h
  rw [Array.toArray_toList] at hcon
  refine hcon.mono fun e W' he => ?_
  obtain ⟨v, S', rfl, hp⟩ := he
  have hvv : v = .bool true := by
    have := hp.res
    simpa only [Res, RdD] using this
  subst hvv
  refine ⟨_, rfl, ?_⟩
  obtain ⟨e1, e2, e3⟩ := hspec ds (trodAll_length _ _ _ _ hA)
  refine ⟨ds, [], p ++ [], [], p, [], hW', ?_, ?_, ?_, hp.below.below.frame _, fun h => by cases h⟩
  · rw [e1, hres]
    exact trodAll_cons_mk (shut_bool hrt true) trodAll_mk0
  · rw [e2]
    refine trodAll_below hlaid _ _ _ _ (fun t ht => ?_) hA hp.below.below fun x hx => hlt x (by simp [hx])
    have := List.all_eq_true.1 hread t ht
    simpa using this
  · rw [e3, hvars]
    simp [DataW.TrodVars]
end
end Go.Proofs.Ytjejjokdbbedlaa.Vm
