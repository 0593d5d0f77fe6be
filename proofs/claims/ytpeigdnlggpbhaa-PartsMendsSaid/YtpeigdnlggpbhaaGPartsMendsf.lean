/- Part 6 of the frame of the proof: shallow programs of Go functions, and what they compute. No condition. -/
import Derived.Test.YtpeigdnlggpbhaaFe
namespace Go.Fer.Sk
open Go.Proofs
open M (Step)
set_option maxRecDepth 100000
set_option linter.unusedVariables false
set_option linter.unusedSimpArgs false
noncomputable def b_k7 : Code := Try.f7.body.getD .skip
theorem b_k7_ok : Try.f7.body = some b_k7 := by kernel_rfl
noncomputable def Psi_k7 (k : Nat) : Option KC := if k = 14 then some (.sc ⟨.unit, t4, fcWorks.sh, true⟩) else if k = 17 then some (.sc ⟨t26, t26, fcCopy.sh, true⟩) else if k = 24 then some (.sc ⟨t26, t4, fcFar.sh, true⟩) else if k = 36 then some (.sc ⟨(.prod t26 (.prod t36 t3)), (.prod t3 t33), fcMends.sh, true⟩) else if k = 37 then some (.sc ⟨(.prod t26 (.prod t36 t3)), (.prod t3 t33), fcMends.sh, true⟩) else none
theorem Psi_k7_ok : PsiOk Try.prog noU Psi_k7 := by
  intro k c h
  unfold Psi_k7 at h
  split at h
  · cases h; subst_vars; exact ⟨spec_k14, fun _ _ => M.det_det⟩
  split at h
  · cases h; subst_vars; exact ⟨spec_k17, fun _ _ => M.det_det⟩
  split at h
  · cases h; subst_vars; exact ⟨spec_k24, fun _ _ => M.det_det⟩
  split at h
  · cases h; subst_vars; exact ⟨spec_k36, fun _ _ => M.det_det⟩
  split at h
  · cases h; subst_vars; exact ⟨spec_k37, fun _ _ => M.det_det⟩
  cases h
def ann_k7 : Ann := (.seq .leaf (.seq (.seq .leaf (.cond (.seq .leaf .leaf) .leaf)) (.seq .leaf (.seq .leaf (.seq .leaf .leaf)))))
theorem l_k7 (x) : funI noU (tabT tab) noPhi Psi_k7 Try.f7 b_k7 ann_k7 (.prod t26 (.prod t36 t3)) t4 x = S_law07_PartsMends fcWorks.sh fcCopy.sh fcFar.sh fcMends.sh fcMends.sh x := by kernel_rfl
theorem spec_k7 : FnSpec Try.prog 7 (.prod t26 (.prod t36 t3)) t4 (fun x => S_law07_PartsMends fcWorks.sh fcCopy.sh fcFar.sh fcMends.sh fcMends.sh x) :=
  fn_ok mixOk tabOk noU_ok noPhi_ok Psi_k7_ok Try.func7 b_k7_ok (by kernel_rfl) fun x => M.le_of_eq (l_k7 x)
end Go.Fer.Sk
