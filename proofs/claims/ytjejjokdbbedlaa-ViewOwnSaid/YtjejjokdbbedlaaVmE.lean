/- An operation that changes nothing does in the model what the pure machine says: numbers, addresses, slices, bundles. No condition. -/
import Derived.Test.YtjejjokdbbedlaaVmD
namespace Go.Proofs.Ytjejjokdbbedlaa.Vm
open Go Go.RowKit
set_option linter.unusedVariables false
set_option linter.unusedSimpArgs false
set_option linter.unusedSectionVars false
section
variable {P : Program} {w0 : Base} {S0 : Nat → Nat → Prop} {N : Nat} {ρ : Nat → Nat × Nat} {S : Nat → Nat → Prop} {st : St} {a : Act} {w : World}

theorem int_of {x : AV} {v : Value} {k : IntKind} {n : Int} (hx : RdA w S ρ x v) (h : x = .d (.int k n)) : v = .int k n := by
  subst h; simpa only [RdA, RdD] using hx
theorem bool_of {x : AV} {v : Value} {b : Bool} (hx : RdA w S ρ x v) (h : x = .d (.bool b)) : v = .bool b := by
  subst h; simpa only [RdA, RdD] using hx

/-- the value of a number or a bool -/
def vOf : DV → Value
  | .int k n => .int k n
  | .bool b => .bool b
  | _ => undef

theorem bin_sound {op : BinOp} {t : TypeId} {ox oy : Operand} {x y av : AV} {vx vy : Value} (hx : RdA w S ρ x vx) (hy : RdA w S ρ y vy) (h : aBin op x y = some av) :
    ∃ u, (do eqGuard op t ox oy vx vy; binOp op t vx vy : Sem Value).run P w = .ok u w ∧ RdA w S ρ av u := by
  unfold aBin at h
  split at h
  · rename_i k n k' m
    have ex := int_of hx rfl
    have ey := int_of hy rfl
    subst ex ey
    split at h
    · rename_i hk
      subst hk
      have hg : (eqGuard op t ox oy (.int k n) (.int k m)).run P w = .ok () w := by cases op <;> simp [eqGuard]
      simp only [Option.map_eq_some_iff] at h
      obtain ⟨c, hc, rfl⟩ := h
      have hb : (binOp op t (.int k n) (.int k m)).run P w = .ok (vOf c) w ∧ RdD w S c (vOf c) := by
        cases op <;> simp only [intBin] at hc
        case quo =>
          split at hc
          · cases hc
          · rename_i h0
            cases hc
            exact ⟨by simp only [binOp, ne_eq, not_true_eq_false, if_false, Op.intDiv, h0, Sem.run_pure, vOf], by simp only [vOf, RdD]⟩
        case rem =>
          split at hc
          · cases hc
          · rename_i h0
            cases hc
            exact ⟨by simp only [binOp, ne_eq, not_true_eq_false, if_false, Op.intDiv, h0, Sem.run_pure, vOf], by simp only [vOf, RdD]⟩
        case shl => cases hc
        case shr => cases hc
        case andNot => cases hc
        all_goals
          cases hc
          exact ⟨by simp only [binOp, ne_eq, not_true_eq_false, if_false, Op.intArith, Op.intBits, Op.intCmp, Sem.run_pure, vOf], by simp only [vOf, RdD]⟩
      exact ⟨vOf c, by simp only [Sem.run_bind, hg, Result.andThen_ok, hb.1], by simpa only [RdA] using hb.2⟩
    · cases h
  · cases h

theorem eqb_sound {op : BinOp} {neg : Bool} (hop : op = if neg then .neq else .eql) {t : TypeId} (ht : P.underlying t = some .bool) {ox oy : Operand} {x y av : AV} {vx vy : Value}
    (hx : RdA w S ρ x vx) (hy : RdA w S ρ y vy) (h : aEqb neg x y = some av) :
    ∃ u, (do eqGuard op t ox oy vx vy; binOp op t vx vy : Sem Value).run P w = .ok u w ∧ RdA w S ρ av u := by
  unfold aEqb at h
  split at h
  · rename_i p q
    have ex := bool_of hx rfl
    have ey := bool_of hy rfl
    subst ex ey
    simp only [Option.some.injEq] at h
    subst h
    have he := run_equalIn_bool' (P := P) w 9999 t p q ht
    cases neg with
    | true =>
      simp only [if_true] at hop
      simp only [cond_true]
      subst hop
      have hg : (eqGuard .neq t ox oy (.bool p) (.bool q)).run P w = .ok () w := by simp [eqGuard]
      refine ⟨.bool (!(p == q)), ?_, by simp only [RdA, RdD]⟩
      simp [hg, binOp, Op.equal, Op.maxDepth, he]
    | false =>
      simp only [Bool.false_eq_true, if_false] at hop
      simp only [cond_false]
      subst hop
      have hg : (eqGuard .eql t ox oy (.bool p) (.bool q)).run P w = .ok () w := by simp [eqGuard]
      refine ⟨.bool (p == q), ?_, by simp only [RdA, RdD]⟩
      simp [hg, binOp, Op.equal, Op.maxDepth, he]
  · cases h

theorem equalIn_nil {P : Program} (w : World) (d : Nat) (t e : TypeId) (a : Option Addr) (l c : Nat) (h : P.underlying t = some (.slice e)) : (Op.equalIn (d + 1) t (.slice a l c) (.slice none 0 0)).run P w = .ok a.isNone w := by
  cases a <;> simp [Op.equalIn, run_underlying h]
theorem nil_sound {op : BinOp} {neg : Bool} (hop : op = if neg then .neq else .eql) {t e : TypeId} (ht : P.underlying t = some (.slice e)) {ox oy : Operand} {x av : AV} {vx : Value}
    (hx : RdA w S ρ x vx) (h : aNil neg x = some av) :
    ∃ u, (do eqGuard op t ox oy vx (.slice none 0 0); binOp op t vx (.slice none 0 0) : Sem Value).run P w = .ok u w ∧ RdA w S ρ av u := by
  have key : ∃ a l c, vx = .slice a l c ∧ av = .d (.bool (if neg then !a.isNone else a.isNone)) := by
    unfold aNil at h
    split at h <;> simp only [Option.some.injEq, reduceCtorEq] at h
    · simp only [RdA, RdD] at hx
      subst h
      exact ⟨none, 0, 0, hx, by cases neg <;> rfl⟩
    · simp only [RdA, RdD] at hx
      obtain ⟨a, b, o, cap, rfl, _⟩ := hx
      subst h
      exact ⟨some a, _, _, rfl, by cases neg <;> rfl⟩
    · simp only [RdA] at hx
      obtain ⟨a, cap, rfl, _⟩ := hx
      subst h
      exact ⟨some a, _, _, rfl, by cases neg <;> rfl⟩
  obtain ⟨a, l, c, rfl, rfl⟩ := key
  have he : (Op.equalIn (9999 + 1) t (.slice a l c) (.slice none 0 0)).run P w = .ok a.isNone w := equalIn_nil w 9999 t e a l c ht
  cases neg with
  | true =>
    simp only [if_true] at hop
    subst hop
    have hg : (eqGuard .neq t ox oy (.slice a l c) (.slice none 0 0)).run P w = .ok () w := by simp [eqGuard]
    refine ⟨.bool (!a.isNone), ?_, by simp only [if_true, RdA, RdD]⟩
    simp [hg, binOp, Op.equal, Op.maxDepth, he]
  | false =>
    simp only [Bool.false_eq_true, if_false] at hop
    subst hop
    have hg : (eqGuard .eql t ox oy (.slice a l c) (.slice none 0 0)).run P w = .ok () w := by simp [eqGuard]
    refine ⟨.bool a.isNone, ?_, by simp only [Bool.false_eq_true, if_false, RdA, RdD]⟩
    simp [hg, binOp, Op.equal, Op.maxDepth, he]

/-! ### structs of numbers and bools -/
theorem eqFields_flat (d : Nat) : ∀ (fs : List Field) (n : Nat) (xs ys : List Value) (cx cy : List AV) (r : Bool), flatFields P n fs = true →
    RdAL w S ρ cx xs → RdAL w S ρ cy ys → cx.length = n + fs.length → cy.length = n + fs.length → cellsEq (cx.drop n) (cy.drop n) = some r →
    (Op.eqFields (d + 1) xs.toArray ys.toArray fs).run P w = .ok r w
  | [], n, xs, ys, cx, cy, r, _, hx, hy, lx, ly, h => by
    have h1 : cx.drop n = [] := List.drop_eq_nil_of_le (by simp at lx; omega)
    have h2 : cy.drop n = [] := List.drop_eq_nil_of_le (by simp at ly; omega)
    rw [h1, h2] at h
    simp only [cellsEq, Option.some.injEq] at h
    subst h
    simp [Op.eqFields]
  | f :: fs, n, xs, ys, cx, cy, r, hf, hx, hy, lx, ly, h => by
    simp only [flatFields, Bool.and_eq_true, beq_iff_eq, bne_iff_ne] at hf
    obtain ⟨⟨⟨ho, hn⟩, ht⟩, hrest⟩ := hf
    simp only [List.length_cons] at lx ly
    have ex : cx.drop n = cx[n]'(by omega) :: cx.drop (n + 1) := List.drop_eq_getElem_cons (by omega)
    have ey : cy.drop n = cy[n]'(by omega) :: cy.drop (n + 1) := List.drop_eq_getElem_cons (by omega)
    obtain ⟨u, hu, hru⟩ := RdAL.at cx xs hx n _ (List.getElem?_eq_getElem (by omega))
    obtain ⟨v, hv, hrv⟩ := RdAL.at cy ys hy n _ (List.getElem?_eq_getElem (by omega))
    rw [ex, ey] at h
    generalize cx[n]'(by omega) = p at *
    generalize cy[n]'(by omega) = q at *
    have hpart : ∀ (zs : List Value) (z : Value), zs[n]? = some z → (part f.type zs.toArray f.offset).run P w = .ok z w := by
      intro zs z hz
      rw [ho]
      have hag : isAggT P f.type = some false := by
        unfold isAggT
        split at ht <;> first | (rename_i hu; simp [hu]) | cases ht
      simp [part, run_isAggT hag, hz]
    unfold cellsEq at h
    split at h
    · rename_i h1 h2; simp at h1
    · rename_i k x l k' y m h1 h2
      simp only [List.cons.injEq] at h1 h2
      obtain ⟨rfl, rfl⟩ := h1
      obtain ⟨rfl, rfl⟩ := h2
      have eu := int_of hru rfl
      have ev := int_of hrv rfl
      subst eu ev
      split at h
      · rename_i hk
        subst hk
        simp only [Option.map_eq_some_iff] at h
        obtain ⟨r', hr', rfl⟩ := h
        have ih := eqFields_flat d fs (n + 1) xs ys cx cy r' hrest hx hy (by omega) (by omega) hr'
        split at ht
        · rename_i k2 hty
          have he := run_equalIn_int (P := P) w d f.type k k2 x y hty
          simp only [Op.eqFields, hn, ne_eq, not_false_eq_true, if_true, Sem.run_bind, hpart xs _ hu, hpart ys _ hv, Result.andThen_ok, he]
          cases hxy : (x == y)
          · simp
          · simpa using ih
        · cases ht
      · cases h
    · cases h

theorem aggCells_sound {x : AV} {v : Value} {cs : List AV} (hx : RdA w S ρ x v) (h : x.aggCells = some cs) : ∃ us : List Value, v = .agg us.toArray ∧ RdAL w S ρ cs us := by
  unfold AV.aggCells at h
  split at h
  · simp only [Option.some.injEq] at h; subst h
    simp only [RdA, RdD] at hx
    obtain ⟨us, rfl, hl⟩ := hx
    exact ⟨us, rfl, RdL.map_d _ _ hl⟩
  · simp only [Option.some.injEq] at h; subst h
    simp only [RdA] at hx
    exact hx
  · cases h

theorem eqs_sound {op : BinOp} {neg : Bool} (hop : op = if neg then .neq else .eql) {t : TypeId} {n : Nat} (ht : flatT P t = some n) {ox oy : Operand} {x y av : AV} {vx vy : Value}
    (hx : RdA w S ρ x vx) (hy : RdA w S ρ y vy) (h : aEqs neg n x y = some av) :
    ∃ u, (do eqGuard op t ox oy vx vy; binOp op t vx vy : Sem Value).run P w = .ok u w ∧ RdA w S ρ av u := by
  unfold aEqs at h
  split at h
  case h_2 => cases h
  rename_i cx cy hcx hcy
  obtain ⟨xs, rfl, hlx⟩ := aggCells_sound hx hcx
  obtain ⟨ys, rfl, hly⟩ := aggCells_sound hy hcy
  split at h
  · rename_i hl
    simp only [Option.map_eq_some_iff] at h
    obtain ⟨r, hr, rfl⟩ := h
    unfold flatT at ht
    cases hu : P.underlying t with
    | none => simp [hu] at ht
    | some d =>
      cases d <;> simp only [hu, reduceCtorEq] at ht
      case struct fs =>
        split at ht
        · rename_i hc
          simp only [Bool.and_eq_true, Bool.not_eq_true'] at hc
          simp only [Option.some.injEq] at ht
          have hfo : P.fieldsOf t = fs := by simp [Program.fieldsOf, hu]
          have he := run_equalIn_agg (P := P) w 9999 t xs.toArray ys.toArray (by rw [hfo]; exact hu) hc.1.2
          rw [hfo] at he
          have hfl := eqFields_flat (P := P) 9998 fs.toList 0 xs ys cx cy r hc.1.1 hlx hly (by simp [hl.1, ← ht]) (by simp [hl.2, ← ht]) (by simpa using hr)
          rw [hfl] at he
          have hg := run_eqGuard_agg (P := P) w op t ox oy xs.toArray ys.toArray hc.2
          cases neg with
          | true =>
            simp only [if_true] at hop
            simp only [cond_true]
            subst hop
            exact ⟨.bool (!r), by simp only [Sem.run_bind, hg, Result.andThen_ok, run_neq_struct, he], by simp only [RdA, RdD]⟩
          | false =>
            simp only [Bool.false_eq_true, if_false] at hop
            simp only [cond_false]
            subst hop
            exact ⟨.bool r, by simp only [Sem.run_bind, hg, Result.andThen_ok, run_eql_struct, he], by simp only [RdA, RdD]⟩
        · cases ht
  · cases h

theorem shf_sound {op : BinOp} (hop : op = .shl ∨ op = .shr) {t : TypeId} {ox oy : Operand} {x y av : AV} {vx vy : Value} (hx : RdA w S ρ x vx) (hy : RdA w S ρ y vy) (h : aShift op x y = some av) :
    ∃ u, (do eqGuard op t ox oy vx vy; binOp op t vx vy : Sem Value).run P w = .ok u w ∧ RdA w S ρ av u := by
  unfold aShift at h
  split at h
  · rename_i k n k' m
    have ex := int_of hx rfl
    have ey := int_of hy rfl
    subst ex ey
    simp only [Option.map_eq_some_iff] at h
    obtain ⟨c, hc, rfl⟩ := h
    have hg : (eqGuard op t ox oy (.int k n) (.int k' m)).run P w = .ok () w := by rcases hop with rfl | rfl <;> simp [eqGuard]
    have hb : (binOp op t (.int k n) (.int k' m)).run P w = .ok (vOf c) w ∧ RdD w S c (vOf c) := by
      unfold intShift at hc
      split at hc
      · cases hc
      · rename_i h0
        rcases hop with rfl | rfl
        · cases hc
          exact ⟨by simp only [binOp, Op.shift, h0, if_false, Sem.run_pure, vOf], by simp only [vOf, RdD]⟩
        · cases hc
          exact ⟨by simp only [binOp, Op.shift, h0, if_false, Sem.run_pure, vOf], by simp only [vOf, RdD]⟩
    exact ⟨vOf c, by simp only [Sem.run_bind, hg, Result.andThen_ok, hb.1], by simpa only [RdA] using hb.2⟩
  · cases h

theorem un_sound {op : UnOp} {x av : AV} {v : Value} (hx : RdA w S ρ x v) (h : aUn op x = some av) : ∃ u, (Op.unary op v).run P w = .ok u w ∧ RdA w S ρ av u := by
  unfold aUn at h
  split at h
  · rename_i k n
    have ex := int_of hx rfl
    subst ex
    split at h
    · simp only [Option.some.injEq] at h
      subst h
      exact ⟨.int k (k.wrap (0 - n)), by simp only [Op.unary, Op.intArith, Sem.run_pure], by simp only [RdA, RdD]⟩
    · cases h
  · rename_i b
    have ex := bool_of hx rfl
    subst ex
    split at h
    · simp only [Option.some.injEq] at h
      subst h
      exact ⟨.bool (!b), by simp only [Op.unary, Sem.run_pure], by simp only [RdA, RdD]⟩
    · cases h
  · cases h

theorem conv_sound {src dst : TypeId} {d : TypeDesc} {k : IntKind} (hs : P.underlying src = some d) (hd : P.underlying dst = some (.int k)) {x av : AV} {v : Value} (hx : RdA w S ρ x v)
    (h : aConv k x = some av) : ∃ u, (convert src dst v).run P w = .ok u w ∧ RdA w S ρ av u := by
  unfold aConv at h
  split at h
  · rename_i k' n
    have ex := int_of hx rfl
    subst ex
    simp only [Option.some.injEq] at h
    subst h
    exact ⟨.int k (k.wrap n), by simp [convert, run_underlying hs, run_underlying hd, Conv.intToInt], by simp only [RdA, RdD]⟩
  · cases h

theorem len_sound {t e ty : TypeId} (ht : P.underlying t = some (.slice e)) {x av : AV} {v : Value} (hx : RdA w S ρ x v) (h : aLen x = some av) :
    ∃ u, (Builtin.len_ #[t] ty #[v]).run P w = .ok u w ∧ RdA w S ρ av u := by
  unfold aLen at h
  split at h
  · simp only [Option.some.injEq] at h; subst h
    simp only [RdA, RdD] at hx; subst hx
    exact ⟨.int .i64 0, by simp [Builtin.len_, run_underlying ht, goInt], by simp only [RdA, RdD]⟩
  · simp only [Option.some.injEq] at h; subst h
    simp only [RdA, RdD] at hx
    obtain ⟨a, b, o, cap, rfl, _⟩ := hx
    exact ⟨_, by simp [Builtin.len_, run_underlying ht, goInt]; rfl, by simp only [RdA, RdD]⟩
  · simp only [Option.some.injEq] at h; subst h
    simp only [RdA, RdD] at hx
    rcases hx with ⟨rfl, rfl⟩ | ⟨a, b, o, cap, rfl, _⟩
    · exact ⟨.int .i64 0, by simp [Builtin.len_, run_underlying ht, goInt], by simp only [RdA, RdD]; rfl⟩
    · exact ⟨_, by simp [Builtin.len_, run_underlying ht, goInt]; rfl, by simp only [RdA, RdD]⟩
  · simp only [Option.some.injEq] at h; subst h
    simp only [RdA] at hx
    obtain ⟨b, cap, rfl, _⟩ := hx
    exact ⟨_, by simp [Builtin.len_, run_underlying ht, goInt]; rfl, by simp only [RdA, RdD]⟩
  · cases h

theorem faddr_sound {s : TypeId} {fs : Array Field} {f : Nat} {fd : Field} {n : Nat} (hs : P.underlying s = some (.struct fs)) (hf : fs[f]? = some fd) (hn : sizeT P fd.type = some n) (h0 : n ≠ 0)
    {x av : AV} {v : Value} (hx : RdA w S ρ x v) (h : aFaddr fd.offset x = some av) : ∃ u, (Instr.fieldAt s v f).run P w = .ok u w ∧ RdA w S ρ av u := by
  have hplace : ∀ b o, (fieldPlace ⟨b, o, none⟩ fd).run P w = .ok ⟨b, o + fd.offset, none⟩ w := by
    intro b o
    simp [fieldPlace, run_sizeT hn, h0, add_mk]
  unfold aFaddr at h
  split at h
  · rename_i e o
    simp only [Option.some.injEq] at h; subst h
    simp only [RdA, RdD] at hx
    obtain ⟨b, o', rfl, hc⟩ := hx
    refine ⟨.pointer (some ⟨b, o' + o + fd.offset, none⟩), by simp [Instr.fieldAt, run_underlying hs, hf, Instr.sureAddr, hplace], ?_⟩
    simp only [RdA, RdD]
    exact ⟨b, o', by rw [Nat.add_assoc], hc⟩
  · rename_i s' sz i o
    simp only [Option.some.injEq] at h; subst h
    simp only [RdA] at hx
    subst hx
    refine ⟨.pointer (some ⟨(ρ s').1, i * sz + o + fd.offset, none⟩), by simp [Instr.fieldAt, run_underlying hs, hf, Instr.sureAddr, hplace], ?_⟩
    simp only [RdA, Nat.add_assoc]
  · cases h

theorem iaddr_sound {t e : TypeId} {sz : Nat} (ht : P.underlying t = some (.slice e)) (hs : sizeT P e = some sz) {x i av : AV} {vx vi : Value} (hx : RdA w S ρ x vx) (hi : RdA w S ρ i vi)
    (h : aIaddr sz x i = some av) : ∃ u, (Instr.indexAt t vx vi).run P w = .ok u w ∧ RdA w S ρ av u := by
  unfold aIaddr at h
  split at h
  · rename_i k sz' es k' n
    have ei := int_of hi rfl
    subst ei
    split at h
    · rename_i hc
      obtain ⟨rfl, h0⟩ := hc
      simp only [Option.map_eq_some_iff] at h
      obtain ⟨r, hr, rfl⟩ := h
      simp only [RdA, RdD] at hx
      obtain ⟨a, b, o, cap, rfl, ha, _, _, he⟩ := hx
      have hlt : n.toNat < es.length := (List.getElem?_eq_some_iff.1 hr).1
      have ha' := ha (by omega)
      subst ha'
      have hlt' : n < es.length := by omega
      have hrow := RdE.at es sz b o he n.toNat r hr
      refine ⟨.pointer (some ⟨b, o + n.toNat * sz, none⟩), by simp [Instr.indexAt, asIntOf, run_underlying ht, run_sizeT hs, h0, hlt', add_mk], ?_⟩
      simp only [RdA, RdD]
      exact ⟨b, o + n.toNat * sz, rfl, hrow.2⟩
    · cases h
  · rename_i k sz' es k' n
    have ei := int_of hi rfl
    subst ei
    split at h
    · rename_i hc
      obtain ⟨rfl, h0⟩ := hc
      simp only [Option.map_eq_some_iff] at h
      obtain ⟨r, hr, rfl⟩ := h
      simp only [RdA] at hx
      rcases hx.sla with ⟨_, rfl⟩ | hx
      · simp at hr
      simp only [RdD] at hx
      obtain ⟨a, b, o, cap, rfl, ha, _, _, he⟩ := hx
      have hlt : n.toNat < es.length := (List.getElem?_eq_some_iff.1 hr).1
      have ha' := ha (by omega)
      subst ha'
      have hlt' : n < es.length := by omega
      have hrow := RdE.at es sz b o he n.toNat r hr
      refine ⟨.pointer (some ⟨b, o + n.toNat * sz, none⟩), by simp [Instr.indexAt, asIntOf, run_underlying ht, run_sizeT hs, h0, hlt', add_mk], ?_⟩
      simp only [RdA, RdD]
      exact ⟨b, o + n.toNat * sz, rfl, hrow.2⟩
    · cases h
  · rename_i s sz' off len k' n
    have ei := int_of hi rfl
    subst ei
    split at h
    · rename_i hc
      obtain ⟨rfl, h0, hlt⟩ := hc
      simp only [Option.some.injEq] at h; subst h
      simp only [RdA] at hx
      obtain ⟨b, cap, rfl, hb, _⟩ := hx
      have := hb (.inl (by omega))
      subst this
      refine ⟨.pointer (some ⟨(ρ s).1, off * sz + n.toNat * sz, none⟩), by simp [Instr.indexAt, asIntOf, run_underlying ht, run_sizeT hs, h0, hlt, add_mk], ?_⟩
      simp only [RdA, Nat.add_mul, Nat.add_zero]
    · cases h
  · cases h

theorem ext_sound {i : Nat} {x av : AV} {v : Value} (hx : RdA w S ρ x v) (h : aExt i x = some av) : ∃ u, (Instr.extract v i).run P w = .ok u w ∧ RdA w S ρ av u := by
  unfold aExt at h
  split at h
  · rename_i vs
    simp only [RdA] at hx
    obtain ⟨us, rfl, hl⟩ := hx
    obtain ⟨u, hu, hr⟩ := RdAL.at vs us hl i av h
    exact ⟨u, by simp [Instr.extract, hu], hr⟩
  · rename_i vs
    simp only [RdA, RdD] at hx
    obtain ⟨us, rfl, hl⟩ := hx
    simp only [Option.map_eq_some_iff] at h
    obtain ⟨c, hc, rfl⟩ := h
    obtain ⟨u, hu, hr⟩ := RdL.at vs us hl i c hc
    exact ⟨u, by simp [Instr.extract, hu], by simpa only [RdA] using hr⟩
  · cases h

theorem maxs_sound : ∀ (xs : List AV) (us : List Value) (acc : AV) (va : Value) (av : AV), RdAL w S ρ xs us → RdA w S ρ acc va →
    xs.foldl (fun a b => match a, b with
    | some (.d (.int k x)), .d (.int k' y) => if k = k' then some (.d (.int k (if y > x then y else x))) else none
    | _, _ => none) (some acc) = some av → ∃ u, (us.foldlM Builtin.max2 va).run P w = .ok u w ∧ RdA w S ρ av u
  | [], us, acc, va, av, hl, ha, h => by
    simp only [RdAL] at hl; subst hl
    simp only [List.foldl_nil, Option.some.injEq] at h; subst h
    exact ⟨va, by simp, ha⟩
  | x :: xs, us, acc, va, av, hl, ha, h => by
    simp only [RdAL] at hl
    obtain ⟨u, us, rfl, hu, hl⟩ := hl
    simp only [List.foldl_cons] at h
    have hnone : ∀ (ys : List AV), ys.foldl (fun a b => match a, b with
      | some (.d (.int k x)), .d (.int k' y) => if k = k' then some (.d (.int k (if y > x then y else x))) else none
      | _, _ => none) (none : Option AV) = none := by
      intro ys
      induction ys with
      | nil => rfl
      | cons y ys ih => simpa only [List.foldl_cons] using ih
    split at h
    · rename_i k p k' q heq
      have heq' := Option.some.inj heq
      split at h
      · rename_i hk
        subst hk heq'
        have e1 := int_of ha rfl
        have e2 := int_of hu rfl
        subst e1 e2
        obtain ⟨r, hr, hra⟩ := maxs_sound xs us (.d (.int k (if q > p then q else p))) (.int k (if q > p then q else p)) av hl (by simp only [RdA, RdD]) h
        refine ⟨r, ?_, hra⟩
        simp only [List.foldlM_cons, Sem.run_bind, Builtin.max2, Sem.run_pure, Result.andThen_ok]
        exact hr
      · rw [hnone] at h; cases h
    · rw [hnone] at h; cases h
theorem mins_sound : ∀ (xs : List AV) (us : List Value) (acc : AV) (va : Value) (av : AV), RdAL w S ρ xs us → RdA w S ρ acc va →
    xs.foldl (fun a b => match a, b with
    | some (.d (.int k x)), .d (.int k' y) => if k = k' then some (.d (.int k (if y < x then y else x))) else none
    | _, _ => none) (some acc) = some av → ∃ u, (us.foldlM Builtin.min2 va).run P w = .ok u w ∧ RdA w S ρ av u
  | [], us, acc, va, av, hl, ha, h => by
    simp only [RdAL] at hl; subst hl
    simp only [List.foldl_nil, Option.some.injEq] at h; subst h
    exact ⟨va, by simp, ha⟩
  | x :: xs, us, acc, va, av, hl, ha, h => by
    simp only [RdAL] at hl
    obtain ⟨u, us, rfl, hu, hl⟩ := hl
    simp only [List.foldl_cons] at h
    have hnone : ∀ (ys : List AV), ys.foldl (fun a b => match a, b with
      | some (.d (.int k x)), .d (.int k' y) => if k = k' then some (.d (.int k (if y < x then y else x))) else none
      | _, _ => none) (none : Option AV) = none := by
      intro ys
      induction ys with
      | nil => rfl
      | cons y ys ih => simpa only [List.foldl_cons] using ih
    split at h
    · rename_i k p k' q heq
      have heq' := Option.some.inj heq
      split at h
      · rename_i hk
        subst hk heq'
        have e1 := int_of ha rfl
        have e2 := int_of hu rfl
        subst e1 e2
        obtain ⟨r, hr, hra⟩ := mins_sound xs us (.d (.int k (if q < p then q else p))) (.int k (if q < p then q else p)) av hl (by simp only [RdA, RdD]) h
        refine ⟨r, ?_, hra⟩
        simp only [List.foldlM_cons, Sem.run_bind, Builtin.min2, Sem.run_pure, Result.andThen_ok]
        exact hr
      · rw [hnone] at h; cases h
    · rw [hnone] at h; cases h
end
end Go.Proofs.Ytjejjokdbbedlaa.Vm
