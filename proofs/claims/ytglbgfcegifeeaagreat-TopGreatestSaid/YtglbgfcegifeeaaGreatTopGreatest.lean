/- The statement 'Rows.TopGreatestSaid': its function is run by the pure machine on data of its parameters' kinds; it gives true. No condition. -/
import Derived.Test.YtglbgfcegifeeaaGreatZ12
import Derived.Test.YtglbgfcegifeeaaGreatRows
import Derived.WalkKit
import Derived.ProofKit
import Derived.OpenShut
import Derived.ShutString
set_option linter.unusedVariables false
set_option linter.unusedSimpArgs false
set_option linter.unusedSectionVars false
namespace Go.Proofs.YtglbgfcegifeeaaGreat.topGreatest
open Go Go.Proofs Go.ChangeShapes Go.WideShapes Go.ChangeAt Go.RowKit Vm
theorem own:ownKnob Tryz.prog.godebug=none:=by kernel_rfl
def kinds:List Kd:=Fz.B6
theorem aaH (xs:aw) (h:LL kinds xs) :Ft Tryz.prog 4 xs (.bool true):=Fz.afZ xs h
set_option maxRecDepth 100000 in
theorem lifted (os:Os) (started:os.Started) (H:Type) (enc:TypeId×Value→H) :
  ReturnsInHanded {} Tryz.checked os 4 .any (Rows.topGreatestSpec.pre6 enc Tryz.prog Tryz.f4 Rows.topGreatestRow.domain false) (Rows.topGreatestSpec.post enc Tryz.prog Tryz.f4 false true false false):=by
 refine returnsInHanded_of_change (C:=Tryz.checked) own started (by kernel_rfl) Tryz.func4
  (ChangeSpec.witness6 (enc:=enc) (C:=Tryz.checked) false ⟨#[],#[.slice none 0 0,.int .i64 0,.slice none 0 0,.int .i64 0,.slice none 0 0],[]⟩ 8 (by kernel_rfl) (by kernel_rfl) (by kernel_rfl) (by kernel_rfl)) ?_
 intro W base args ds gs before aaI hW akM _
 exact xm (H:=H) (enc:=enc) (s:=Rows.topGreatestSpec) (fn:=Tryz.f4) (by kernel_rfl) rfl (n:=8) (Ks:=kinds) (by kernel_rfl) (by kernel_rfl) (rt:=4) (by kernel_rfl) (by kernel_rfl)
  (fun ds h=>by
   have h':ds.length=5:=h
   obtain ⟨d0,d1,d2,d3,d4,rfl⟩:=acu h'
   exact ⟨rfl,rfl,rfl⟩) aaH W base args ds gs before aaI hW
theorem af1:Rows.topGreatestRow.holds Tryz.pinned (OpenSpec.ofChange Rows.topGreatestSpec):=
 OpenClaim.holds_of_wide 4 Tryz.f4 rfl rfl rfl rfl rfl rfl rfl ⟨rfl,rfl,rfl,rfl,rfl⟩ rfl rfl rfl rfl rfl (by kernel_rfl) Tryz.func4 (by kernel_rfl)
  (of_decide_eq_true (by kernel_rfl)) (by unfold Func.isWrapper; first | (rw [if_pos (by decide +kernel)]; kernel_rfl) | (rw [if_neg (by decide +kernel)]; exact ⟨rfl,rfl⟩))
  (fun os started H enc _=>lifted os started H enc)
theorem proved:Rows.TopGreatestSaid:=
 af1
#print axioms proved
end Go.Proofs.YtglbgfcegifeeaaGreat.topGreatest
