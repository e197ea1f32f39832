/- FitsSome: the run of the statement. No condition. -/
import Derived.Test.YthjcfiekdejdgaaHe
namespace Go.Proofs.Ythjcfiekdejdgaa
open Go Go.Proofs Go.RowKit Vm
set_option linter.unusedVariables false
set_option linter.unusedSimpArgs false
noncomputable def spH : FuncId → Option FSpec := spAdd 19 someS (spAdd 20 rowS (spAdd 12 fitS (spAdd 13 fitS (spAdd 15 intsS (spAdd 16 shoS (spAdd 17 shoS (spAdd 18 trueS noSp)))))))
def bkw (h : List (List DV)) (w : Int) : DV := .agg (bk (bA h w) (bB w) (bM w) (bQ w))
def shW (h : List (List DV)) (w : Int) (r : List (List DV)) : List (List DV) := outL 3 (shP (bA h w) (bB w) (bM w) (bQ w) r)
theorem t4 (n : Nat) (h l : List (List DV)) (w : Int) : FK tab spH lsp0 20 (n+8) 4 [.sla false 1 h, .int .i64 w, .sla false 7 l] =
  cond (decide ((l.length : Int) > (30 : Int))) (some (.bool true))
    (need (someS.D [.sla false 1 h, .int .i64 w]) (need (rowS.D [.sla false 7 l])
      (need (fitS.D [bkw h w, .sla false 7 (rowL l)]) (need (fitS.D [bkw h w, .sla false 7 (rowL l)])
        (cond (fitV (bA h w) (bB w) (bM w) (bQ w) (rowL l) == fitV (bA h w) (bB w) (bM w) (bQ w) (rowL l))
          (need (shoS.D [bkw h w, .sla false 7 (rowL l)]) (need (shoS.D [bkw h w, .sla false 7 (rowL l)])
            (need (intsS.D [.sla false 1 (shW h w (rowL l)), .sla false 1 (shW h w (rowL l))]) (need (trueS.D []) (some (.bool true))))))
          (some (.bool false))))))) := by kernel_rfl
theorem spH_ok : ∀ f s, spH f = some s → s.ok Try.prog f := spAdd_ok some19 (spAdd_ok row20 (spAdd_ok fit12 (spAdd_ok fit13 (spAdd_ok ints15 (spAdd_ok sho16 (spAdd_ok rsho17 (spAdd_ok known18 noSp_ok)))))))
theorem someD {h : List (List DV)} (hz : ∀ e ∈ h, okRow z1 e = true) (w : Int) : someS.D [.sla false 1 h, .int .i64 w] := ⟨_, _, rfl, Sl.sla _ _ _, hz⟩
theorem rowD {l : List (List DV)} (hz : ∀ e ∈ l, okRow z7 e = true) (hl : l.length ≤ 30) : rowS.D [.sla false 7 l] := ⟨_, rfl, Sl.sla _ _ _, hz, by show l.length ≤ 1000; omega⟩
theorem rowL_len {l : List (List DV)} : (rowL l).length ≤ 40 := by
  have := (rowL_RN l).len
  omega
theorem fitD (h : List (List DV)) (w : Int) {r : List (List DV)} (hr : r.length ≤ 1000) (hp : ∀ e ∈ r, PO 3 e) : fitS.D [bkw h w, .sla false 7 r] := ⟨_, _, _, _, _, rfl, bk_some h w, Sl.sla _ _ _, hr, fun e he => (hp e he).z⟩
theorem shoD (h : List (List DV)) (w : Int) {r : List (List DV)} (hr : r.length ≤ 1000) (hp : ∀ e ∈ r, PO 3 e) : shoS.D [bkw h w, .sla false 7 r] := ⟨_, _, _, _, _, rfl, bk_some h w, Sl.sla _ _ _, hr, hp⟩
theorem shW_len (h : List (List DV)) (w : Int) (r : List (List DV)) : (shW h w r).length ≤ 1000 := by
  have := outL_len 3 (shP (bA h w) (bB w) (bM w) (bQ w) r)
  unfold shW
  omega
theorem outL_ok (n : Nat) (P : Nat → Bool) : ∀ e ∈ outL n P, okRow z1 e = true := fun e he => by
  obtain ⟨j, _, rfl⟩ := List.mem_map.1 (show e ∈ ((List.range n).filter P).map (fun i => [DV.int .i64 ((i : Nat) : Int)]) from he)
  rfl
end Go.Proofs.Ythjcfiekdejdgaa
