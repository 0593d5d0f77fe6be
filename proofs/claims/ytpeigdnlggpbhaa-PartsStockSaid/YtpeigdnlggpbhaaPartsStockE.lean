/- Part 5 of the proof of PartsStock: shallow programs of Go functions, and what they compute. No condition. -/
import Derived.Test.YtpeigdnlggpbhaaPartsStockD
namespace Go.Fer.Sk
open Go.Proofs
open M (Step)
set_option maxRecDepth 100000
set_option linter.unusedVariables false
set_option linter.unusedSimpArgs false
noncomputable def b_k86 : Code := Try.f86.body.getD .skip
theorem b_k86_ok : Try.f86.body = some b_k86 := by kernel_rfl
noncomputable def Psi_k86 (k : Nat) : Option KC := none
theorem Psi_k86_ok : PsiOk Try.prog noU Psi_k86 := by
  intro k c h
  unfold Psi_k86 at h
  cases h
def ann_k86 : Ann := (.seq .leaf (.join ⟨[(0, .val t131)], []⟩ .leaf (.join ⟨[(0, .val t131)], []⟩ .leaf (.join ⟨[(0, .val t131)], []⟩ .leaf (.join ⟨[(0, .val t131)], []⟩ .leaf (.join ⟨[(0, .val t131)], []⟩ .leaf (.join ⟨[(0, .val t131)], []⟩ .leaf (.seq .leaf .leaf))))))))
theorem l_k86 (x) : funI noU (tabT tab) noPhi Psi_k86 Try.f86 b_k86 ann_k86 t131 t3 x = S_math_bits_OnesCount64  x := by kernel_rfl
theorem spec_k86 : FnSpec Try.prog 86 t131 t3 fcOnes.sh :=
  fn_ok mixOk tabOk noU_ok noPhi_ok Psi_k86_ok Try.func86 b_k86_ok (by kernel_rfl) fun x => M.le_trans (M.le_of_eq (l_k86 x)) (sOnes64 x)
noncomputable def b_k57 : Code := Try.f57.body.getD .skip
theorem b_k57_ok : Try.f57.body = some b_k57 := by kernel_rfl
noncomputable def Psi_k57 (k : Nat) : Option KC := if k = 86 then some (.sc ⟨t131, t3, fcOnes.sh, true⟩) else none
theorem Psi_k57_ok : PsiOk Try.prog noU Psi_k57 := by
  intro k c h
  unfold Psi_k57 at h
  split at h
  · cases h; subst_vars; exact ⟨spec_k86, fun _ _ => M.det_det⟩
  cases h
def ann_k57 : Ann := (.seq .leaf (.seq (.cond (.seq .leaf .leaf) .leaf) (.seq .leaf .leaf)))
theorem l_k57 (x) : funI noU (tabT tab) noPhi Psi_k57 Try.f57 b_k57 ann_k57 t92 t3 x = S_math_bits_OnesCount (fun _ => M.fail) fcOnes.sh x := by kernel_rfl
theorem spec_k57 : FnSpec Try.prog 57 t92 t3 fcOnes.sh :=
  fn_ok mixOk tabOk noU_ok noPhi_ok Psi_k57_ok Try.func57 b_k57_ok (by kernel_rfl) fun x => M.le_trans (M.le_of_eq (l_k57 x)) (sOnes (fun _ => M.fail) x)
noncomputable def b_k79 : Code := Try.f79.body.getD .skip
theorem b_k79_ok : Try.f79.body = some b_k79 := by kernel_rfl
noncomputable def Psi_k79 (k : Nat) : Option KC := none
theorem Psi_k79_ok : PsiOk Try.prog noU Psi_k79 := by
  intro k c h
  unfold Psi_k79 at h
  cases h
def ann_k79 : Ann := (.seq .leaf (.seq .leaf .leaf))
theorem l_k79 (x) : funI noU (tabT tab) noPhi Psi_k79 Try.f79 b_k79 ann_k79 (.prod t3 (.prod t3 t3)) t4 x = S_parts_within  x := by kernel_rfl
theorem spec_k79 : FnSpec Try.prog 79 (.prod t3 (.prod t3 t3)) t4 fcWithin.sh :=
  fn_ok mixOk tabOk noU_ok noPhi_ok Psi_k79_ok Try.func79 b_k79_ok (by kernel_rfl) fun x => M.le_trans (M.le_of_eq (l_k79 x)) (sPWithin x)
noncomputable def b_k93 : Code := Try.f93.body.getD .skip
theorem b_k93_ok : Try.f93.body = some b_k93 := by kernel_rfl
noncomputable def Psi_k93 (k : Nat) : Option KC := if k = 79 then some (.sc ⟨(.prod t3 (.prod t3 t3)), t4, fcWithin.sh, true⟩) else none
theorem Psi_k93_ok : PsiOk Try.prog noU Psi_k93 := by
  intro k c h
  unfold Psi_k93 at h
  split at h
  · cases h; subst_vars; exact ⟨spec_k79, fun _ _ => M.det_det⟩
  cases h
def ann_k93 : Ann := (.seq .leaf (.seq .leaf .leaf))
theorem l_k93 (x) : funI noU (tabT tab) noPhi Psi_k93 Try.f93 b_k93 ann_k93 t3 t4 x = S_parts_isMark fcWithin.sh x := by kernel_rfl
theorem spec_k93 : FnSpec Try.prog 93 t3 t4 fcIsMark.sh :=
  fn_ok mixOk tabOk noU_ok noPhi_ok Psi_k93_ok Try.func93 b_k93_ok (by kernel_rfl) fun x => M.le_trans (M.le_of_eq (l_k93 x)) (sPIsMark x)
noncomputable def b_k94 : Code := Try.f94.body.getD .skip
theorem b_k94_ok : Try.f94.body = some b_k94 := by kernel_rfl
noncomputable def Psi_k94 (k : Nat) : Option KC := if k = 79 then some (.sc ⟨(.prod t3 (.prod t3 t3)), t4, fcWithin.sh, true⟩) else none
theorem Psi_k94_ok : PsiOk Try.prog noU Psi_k94 := by
  intro k c h
  unfold Psi_k94 at h
  split at h
  · cases h; subst_vars; exact ⟨spec_k79, fun _ _ => M.det_det⟩
  cases h
def ann_k94 : Ann := (.seq .leaf (.seq .leaf .leaf))
theorem l_k94 (x) : funI noU (tabT tab) noPhi Psi_k94 Try.f94 b_k94 ann_k94 t28 t4 x = S_parts_isLength fcWithin.sh x := by kernel_rfl
theorem spec_k94 : FnSpec Try.prog 94 t28 t4 fcIsLength.sh :=
  fn_ok mixOk tabOk noU_ok noPhi_ok Psi_k94_ok Try.func94 b_k94_ok (by kernel_rfl) fun x => M.le_trans (M.le_of_eq (l_k94 x)) (sPIsLength x)
noncomputable def b_k92 : Code := Try.f92.body.getD .skip
theorem b_k92_ok : Try.f92.body = some b_k92 := by kernel_rfl
noncomputable def Psi_k92 (k : Nat) : Option KC := if k = 93 then some (.sc ⟨t3, t4, fcIsMark.sh, true⟩) else if k = 94 then some (.sc ⟨t28, t4, fcIsLength.sh, true⟩) else none
theorem Psi_k92_ok : PsiOk Try.prog noU Psi_k92 := by
  intro k c h
  unfold Psi_k92 at h
  split at h
  · cases h; subst_vars; exact ⟨spec_k93, fun _ _ => M.det_det⟩
  split at h
  · cases h; subst_vars; exact ⟨spec_k94, fun _ _ => M.det_det⟩
  cases h
def ann_k92 : Ann := (.seq .leaf (.seq .leaf .leaf))
theorem l_k92 (x) : funI noU (tabT tab) noPhi Psi_k92 Try.f92 b_k92 ann_k92 t30 t4 x = S_parts_isWorkshop_c1 fcIsMark.sh fcIsLength.sh x := by kernel_rfl
theorem spec_k92 : FnSpec Try.prog 92 t30 t4 fcSpareC.sh :=
  fn_ok mixOk tabOk noU_ok noPhi_ok Psi_k92_ok Try.func92 b_k92_ok (by kernel_rfl) fun x => M.le_trans (M.le_of_eq (l_k92 x)) (sPIsW1 x)
noncomputable def b_k76 : Code := Try.f76.body.getD .skip
theorem b_k76_ok : Try.f76.body = some b_k76 := by kernel_rfl
noncomputable def Psi_k76 (k : Nat) : Option KC := none
theorem Psi_k76_ok : PsiOk Try.prog noU Psi_k76 := by
  intro k c h
  unfold Psi_k76 at h
  cases h
def ann_k76 : Ann := (.seq .leaf (.join ⟨[], []⟩ (.seq .leaf (.block (.loop ⟨[(0, .val t36), (3, .val t3)], []⟩ (.seq (.seq .leaf (.cond .leaf .leaf)) (.seq (.block (.seq .leaf (.cond (.seq .leaf .leaf) .leaf))) .leaf))))) (.seq .leaf .leaf)))
theorem l_k76 (x) : funI noU (tabT tab) noPhi Psi_k76 Try.f76 b_k76 ann_k76 t36 t4 x = S_parts_ascending  x := by kernel_rfl
theorem spec_k76 : FnSpec Try.prog 76 t36 t4 fcAscending.sh :=
  fn_ok mixOk tabOk noU_ok noPhi_ok Psi_k76_ok Try.func76 b_k76_ok (by kernel_rfl) fun x => M.le_trans (M.le_of_eq (l_k76 x)) (sPAscending x)
noncomputable def b_k124 : Code := Try.f124.body.getD .skip
theorem b_k124_ok : Try.f124.body = some b_k124 := by kernel_rfl
noncomputable def Psi_k124 (k : Nat) : Option KC := none
theorem Psi_k124_ok : PsiOk Try.prog noU Psi_k124 := by
  intro k c h
  unfold Psi_k124 at h
  cases h
def ann_k124 : Ann := (.seq .leaf (.join ⟨[], []⟩ (.seq .leaf (.block (.loop ⟨[(0, .val t36), (1, .val t119), (7, .val t3), (8, .val t3)], []⟩ (.seq .leaf (.seq (.cond .leaf .leaf) (.seq (.block (.seq .leaf (.seq .leaf (.cond (.seq .leaf .leaf) .leaf)))) .leaf)))))) (.seq .leaf .leaf)))
theorem l_k124 (x) : funI noU (tabT tab) noPhi Psi_k124 Try.f124 b_k124 ann_k124 (.prod t36 t119) t3 x = S_slices_IndexFunc_int_int  x := by kernel_rfl
theorem spec_k124 : FnSpec Try.prog 124 (.prod t36 t119) t3 (fcIndexFunc t3).sh :=
  fn_ok mixOk tabOk noU_ok noPhi_ok Psi_k124_ok Try.func124 b_k124_ok (by kernel_rfl) fun x => M.le_trans (M.le_of_eq (l_k124 x)) (sIndexFunc t3 x)
noncomputable def b_k109 : Code := Try.f109.body.getD .skip
theorem b_k109_ok : Try.f109.body = some b_k109 := by kernel_rfl
noncomputable def Psi_k109 (k : Nat) : Option KC := if k = 124 then some (.sc ⟨(.prod t36 t119), t3, (fcIndexFunc t3).sh, true⟩) else none
theorem Psi_k109_ok : PsiOk Try.prog noU Psi_k109 := by
  intro k c h
  unfold Psi_k109 at h
  split at h
  · cases h; subst_vars; exact ⟨spec_k124, fun _ _ => M.det_det⟩
  cases h
def ann_k109 : Ann := (.seq .leaf (.seq .leaf .leaf))
theorem l_k109 (x) : funI noU (tabT tab) noPhi Psi_k109 Try.f109 b_k109 ann_k109 (.prod t36 t119) t4 x = S_slices_ContainsFunc_int_int (fcIndexFunc t3).sh x := by kernel_rfl
theorem spec_k109 : FnSpec Try.prog 109 (.prod t36 t119) t4 (fcContainsFunc t3).sh :=
  fn_ok mixOk tabOk noU_ok noPhi_ok Psi_k109_ok Try.func109 b_k109_ok (by kernel_rfl) fun x => M.le_trans (M.le_of_eq (l_k109 x)) (sContainsFunc t3 x)
noncomputable def b_k110 : Code := Try.f110.body.getD .skip
theorem b_k110_ok : Try.f110.body = some b_k110 := by kernel_rfl
noncomputable def Psi_k110 (k : Nat) : Option KC := none
theorem Psi_k110_ok : PsiOk Try.prog noU Psi_k110 := by
  intro k c h
  unfold Psi_k110 at h
  cases h
def ann_k110 : Ann := (.seq .leaf (.seq .leaf .leaf))
theorem l_k110 (x) : codeI noU (tabT tab) noPhi Psi_k110 ann_k110 b_k110 (capsSt 1 (parSt (.prod t3 (.ptr t119)) x)) (retI (tabT tab) Try.f110.results.toList t4) = S_parts_all_int__c1  x := by kernel_rfl
theorem spec_k110 : FnSpec Try.prog 110 (.prod t3 (.ptr t119)) t4 (fcAllC1 t3).sh :=
  fnC_ok (n := 1) mixOk tabOk noU_ok noPhi_ok Psi_k110_ok Try.func110 b_k110_ok (by kernel_rfl) fun x => M.le_req (fun h => by obtain ⟨f, hf, _⟩ := h; exact caps_pre ⟨trivial, isSome_of hf⟩) (M.le_trans (M.le_of_eq (l_k110 x)) (sAllC1 t3 x))
noncomputable def b_k77 : Code := Try.f77.body.getD .skip
theorem b_k77_ok : Try.f77.body = some b_k77 := by kernel_rfl
noncomputable def U_k77 : FnTab := ⟨fun k => none, fun k => if k = 110 then some ⟨[t3], [t119], t4, (fcAllC1 t3).sh⟩ else none⟩
theorem U_k77_ok : FnTabOk Try.prog U_k77 where
  fnv := by
    intro k v h
    simp only [U_k77] at h
    cases h
  clv := by
    intro k v h
    simp only [U_k77] at h
    split at h
    · cases h; subst_vars; exact ⟨rfl, spec_k110⟩
    cases h
noncomputable def Psi_k77 (k : Nat) : Option KC := if k = 109 then some (.sc ⟨(.prod t36 t119), t4, (fcContainsFunc t3).sh, true⟩) else none
theorem Psi_k77_ok : PsiOk Try.prog U_k77 Psi_k77 := by
  intro k c h
  unfold Psi_k77 at h
  split at h
  · cases h; subst_vars; exact ⟨spec_k109, fun _ _ => M.det_det⟩
  cases h
def ann_k77 : Ann := (.seq .leaf (.seq .leaf .leaf))
theorem l_k77 (x) : funI U_k77 (tabT tab) noPhi Psi_k77 Try.f77 b_k77 ann_k77 (.prod t36 t119) t4 x = S_parts_all_int (fcContainsFunc t3).sh (fcAllC1 t3).sh x := by kernel_rfl
theorem spec_k77 : FnSpec Try.prog 77 (.prod t36 t119) t4 (fcAllF t3).sh :=
  fn_ok mixOk tabOk U_k77_ok noPhi_ok Psi_k77_ok Try.func77 b_k77_ok (by kernel_rfl) fun x => M.le_trans (M.le_of_eq (l_k77 x)) (sAllF t3 x)
noncomputable def b_k95 : Code := Try.f95.body.getD .skip
theorem b_k95_ok : Try.f95.body = some b_k95 := by kernel_rfl
noncomputable def U_k95 : FnTab := ⟨fun k => if k = 93 then some ⟨t3, t4, fcIsMark.sh⟩ else none, fun k => none⟩
theorem U_k95_ok : FnTabOk Try.prog U_k95 where
  fnv := by
    intro k v h
    simp only [U_k95] at h
    split at h
    · cases h; subst_vars; exact spec_k93
    cases h
  clv := by
    intro k v h
    simp only [U_k95] at h
    cases h
noncomputable def Psi_k95 (k : Nat) : Option KC := if k = 76 then some (.sc ⟨t36, t4, fcAscending.sh, true⟩) else if k = 77 then some (.sc ⟨(.prod t36 t119), t4, (fcAllF t3).sh, true⟩) else if k = 93 then some (.sc ⟨t3, t4, fcIsMark.sh, true⟩) else if k = 94 then some (.sc ⟨t28, t4, fcIsLength.sh, true⟩) else none
theorem Psi_k95_ok : PsiOk Try.prog U_k95 Psi_k95 := by
  intro k c h
  unfold Psi_k95 at h
  split at h
  · cases h; subst_vars; exact ⟨spec_k76, fun _ _ => M.det_det⟩
  split at h
  · cases h; subst_vars; exact ⟨spec_k77, fun _ _ => M.det_det⟩
  split at h
  · cases h; subst_vars; exact ⟨spec_k93, fun _ _ => M.det_det⟩
  split at h
  · cases h; subst_vars; exact ⟨spec_k94, fun _ _ => M.det_det⟩
  cases h
def ann_k95 : Ann := (.seq .leaf (.seq .leaf .leaf))
theorem l_k95 (x) : funI U_k95 (tabT tab) noPhi Psi_k95 Try.f95 b_k95 ann_k95 t95 t4 x = S_parts_isWorkshop_c2 fcAscending.sh (fcAllF t3).sh fcIsMark.sh fcIsLength.sh x := by kernel_rfl
theorem spec_k95 : FnSpec Try.prog 95 t95 t4 fcIsSlot.sh :=
  fn_ok mixOk tabOk U_k95_ok noPhi_ok Psi_k95_ok Try.func95 b_k95_ok (by kernel_rfl) fun x => M.le_trans (M.le_of_eq (l_k95 x)) (sPIsW2 x)
noncomputable def b_k128 : Code := Try.f128.body.getD .skip
theorem b_k128_ok : Try.f128.body = some b_k128 := by kernel_rfl
noncomputable def Psi_k128 (k : Nat) : Option KC := none
theorem Psi_k128_ok : PsiOk Try.prog noU Psi_k128 := by
  intro k c h
  unfold Psi_k128 at h
  cases h
def ann_k128 : Ann := (.seq .leaf (.join ⟨[], []⟩ (.seq .leaf (.block (.loop ⟨[(0, .val t72), (1, .val t138), (7, .val t3), (8, .val t3)], []⟩ (.seq .leaf (.seq (.cond .leaf .leaf) (.seq (.block (.seq .leaf (.seq .leaf (.cond (.seq .leaf .leaf) .leaf)))) .leaf)))))) (.seq .leaf .leaf)))
theorem l_k128 (x) : funI noU (tabT tab) noPhi Psi_k128 Try.f128 b_k128 ann_k128 (.prod t72 t138) t3 x = S_slices_IndexFunc_api_Slot_api_Slot  x := by kernel_rfl
theorem spec_k128 : FnSpec Try.prog 128 (.prod t72 t138) t3 (fcIndexFunc t95).sh :=
  fn_ok mixOk tabOk noU_ok noPhi_ok Psi_k128_ok Try.func128 b_k128_ok (by kernel_rfl) fun x => M.le_trans (M.le_of_eq (l_k128 x)) (sIndexFunc t95 x)
noncomputable def b_k115 : Code := Try.f115.body.getD .skip
theorem b_k115_ok : Try.f115.body = some b_k115 := by kernel_rfl
noncomputable def Psi_k115 (k : Nat) : Option KC := if k = 128 then some (.sc ⟨(.prod t72 t138), t3, (fcIndexFunc t95).sh, true⟩) else none
theorem Psi_k115_ok : PsiOk Try.prog noU Psi_k115 := by
  intro k c h
  unfold Psi_k115 at h
  split at h
  · cases h; subst_vars; exact ⟨spec_k128, fun _ _ => M.det_det⟩
  cases h
def ann_k115 : Ann := (.seq .leaf (.seq .leaf .leaf))
theorem l_k115 (x) : funI noU (tabT tab) noPhi Psi_k115 Try.f115 b_k115 ann_k115 (.prod t72 t138) t4 x = S_slices_ContainsFunc_api_Slot_api_Slot (fcIndexFunc t95).sh x := by kernel_rfl
theorem spec_k115 : FnSpec Try.prog 115 (.prod t72 t138) t4 (fcContainsFunc t95).sh :=
  fn_ok mixOk tabOk noU_ok noPhi_ok Psi_k115_ok Try.func115 b_k115_ok (by kernel_rfl) fun x => M.le_trans (M.le_of_eq (l_k115 x)) (sContainsFunc t95 x)
noncomputable def b_k116 : Code := Try.f116.body.getD .skip
theorem b_k116_ok : Try.f116.body = some b_k116 := by kernel_rfl
noncomputable def Psi_k116 (k : Nat) : Option KC := none
theorem Psi_k116_ok : PsiOk Try.prog noU Psi_k116 := by
  intro k c h
  unfold Psi_k116 at h
  cases h
def ann_k116 : Ann := (.seq .leaf (.seq .leaf .leaf))
theorem l_k116 (x) : codeI noU (tabT tab) noPhi Psi_k116 ann_k116 b_k116 (capsSt 1 (parSt (.prod t95 (.ptr t138)) x)) (retI (tabT tab) Try.f116.results.toList t4) = S_parts_all_api_Slot__c1  x := by kernel_rfl
theorem spec_k116 : FnSpec Try.prog 116 (.prod t95 (.ptr t138)) t4 (fcAllC1 t95).sh :=
  fnC_ok (n := 1) mixOk tabOk noU_ok noPhi_ok Psi_k116_ok Try.func116 b_k116_ok (by kernel_rfl) fun x => M.le_req (fun h => by obtain ⟨f, hf, _⟩ := h; exact caps_pre ⟨trivial, isSome_of hf⟩) (M.le_trans (M.le_of_eq (l_k116 x)) (sAllC1 t95 x))
noncomputable def b_k97 : Code := Try.f97.body.getD .skip
theorem b_k97_ok : Try.f97.body = some b_k97 := by kernel_rfl
noncomputable def U_k97 : FnTab := ⟨fun k => none, fun k => if k = 116 then some ⟨[t95], [t138], t4, (fcAllC1 t95).sh⟩ else none⟩
theorem U_k97_ok : FnTabOk Try.prog U_k97 where
  fnv := by
    intro k v h
    simp only [U_k97] at h
    cases h
  clv := by
    intro k v h
    simp only [U_k97] at h
    split at h
    · cases h; subst_vars; exact ⟨rfl, spec_k116⟩
    cases h
noncomputable def Psi_k97 (k : Nat) : Option KC := if k = 115 then some (.sc ⟨(.prod t72 t138), t4, (fcContainsFunc t95).sh, true⟩) else none
theorem Psi_k97_ok : PsiOk Try.prog U_k97 Psi_k97 := by
  intro k c h
  unfold Psi_k97 at h
  split at h
  · cases h; subst_vars; exact ⟨spec_k115, fun _ _ => M.det_det⟩
  cases h
def ann_k97 : Ann := (.seq .leaf (.seq .leaf .leaf))
theorem l_k97 (x) : funI U_k97 (tabT tab) noPhi Psi_k97 Try.f97 b_k97 ann_k97 (.prod t72 t138) t4 x = S_parts_all_api_Slot (fcContainsFunc t95).sh (fcAllC1 t95).sh x := by kernel_rfl
theorem spec_k97 : FnSpec Try.prog 97 (.prod t72 t138) t4 (fcAllF t95).sh :=
  fn_ok mixOk tabOk U_k97_ok noPhi_ok Psi_k97_ok Try.func97 b_k97_ok (by kernel_rfl) fun x => M.le_trans (M.le_of_eq (l_k97 x)) (sAllF t95 x)
noncomputable def b_k96 : Code := Try.f96.body.getD .skip
theorem b_k96_ok : Try.f96.body = some b_k96 := by kernel_rfl
noncomputable def Psi_k96 (k : Nat) : Option KC := if k = 97 then some (.sc ⟨(.prod t72 t138), t4, (fcAllF t95).sh, true⟩) else none
theorem Psi_k96_ok : PsiOk Try.prog noU Psi_k96 := by
  intro k c h
  unfold Psi_k96 at h
  split at h
  · cases h; subst_vars; exact ⟨spec_k97, fun _ _ => M.det_det⟩
  cases h
def ann_k96 : Ann := (.seq .leaf (.seq .leaf .leaf))
theorem l_k96 (x) : codeI noU (tabT tab) noPhi Psi_k96 ann_k96 b_k96 (capsSt 1 (parSt (.prod t74 (.ptr t138)) x)) (retI (tabT tab) Try.f96.results.toList t4) = S_parts_isWorkshop_c3 (fcAllF t95).sh x := by kernel_rfl
theorem spec_k96 : FnSpec Try.prog 96 (.prod t74 (.ptr t138)) t4 fcMakeC.sh :=
  fnC_ok (n := 1) mixOk tabOk noU_ok noPhi_ok Psi_k96_ok Try.func96 b_k96_ok (by kernel_rfl) fun x => M.le_req (fun h => by obtain ⟨f, hf, _⟩ := h; exact caps_pre ⟨trivial, isSome_of hf⟩) (M.le_trans (M.le_of_eq (l_k96 x)) (sPIsW3 x))
noncomputable def b_k66 : Code := Try.f66.body.getD .skip
theorem b_k66_ok : Try.f66.body = some b_k66 := by kernel_rfl
noncomputable def Psi_k66 (k : Nat) : Option KC := if k = 79 then some (.sc ⟨(.prod t3 (.prod t3 t3)), t4, fcWithin.sh, true⟩) else none
theorem Psi_k66_ok : PsiOk Try.prog noU Psi_k66 := by
  intro k c h
  unfold Psi_k66 at h
  split at h
  · cases h; subst_vars; exact ⟨spec_k79, fun _ _ => M.det_det⟩
  cases h
def ann_k66 : Ann := (.seq .leaf (.seq .leaf .leaf))
theorem l_k66 (x) : funI noU (tabT tab) noPhi Psi_k66 Try.f66 b_k66 ann_k66 (.prod t26 t3) t4 x = S_parts_isSpare fcWithin.sh x := by kernel_rfl
theorem spec_k66 : FnSpec Try.prog 66 (.prod t26 t3) t4 fcIsSpare.sh :=
  fn_ok mixOk tabOk noU_ok noPhi_ok Psi_k66_ok Try.func66 b_k66_ok (by kernel_rfl) fun x => M.le_trans (M.le_of_eq (l_k66 x)) (sPIsSpare x)
noncomputable def b_k69 : Code := Try.f69.body.getD .skip
theorem b_k69_ok : Try.f69.body = some b_k69 := by kernel_rfl
noncomputable def Psi_k69 (k : Nat) : Option KC := if k = 79 then some (.sc ⟨(.prod t3 (.prod t3 t3)), t4, fcWithin.sh, true⟩) else none
theorem Psi_k69_ok : PsiOk Try.prog noU Psi_k69 := by
  intro k c h
  unfold Psi_k69 at h
  split at h
  · cases h; subst_vars; exact ⟨spec_k79, fun _ _ => M.det_det⟩
  cases h
def ann_k69 : Ann := (.seq .leaf (.seq .leaf .leaf))
theorem l_k69 (x) : funI noU (tabT tab) noPhi Psi_k69 Try.f69 b_k69 ann_k69 (.prod t26 (.prod t3 t3)) t4 x = S_parts_isSlot fcWithin.sh x := by kernel_rfl
theorem spec_k69 : FnSpec Try.prog 69 (.prod t26 (.prod t3 t3)) t4 fcIsSlotOf.sh :=
  fn_ok mixOk tabOk noU_ok noPhi_ok Psi_k69_ok Try.func69 b_k69_ok (by kernel_rfl) fun x => M.le_trans (M.le_of_eq (l_k69 x)) (sPIsSlot x)
noncomputable def b_k98 : Code := Try.f98.body.getD .skip
theorem b_k98_ok : Try.f98.body = some b_k98 := by kernel_rfl
noncomputable def Psi_k98 (k : Nat) : Option KC := if k = 66 then some (.sc ⟨(.prod t26 t3), t4, fcIsSpare.sh, true⟩) else if k = 69 then some (.sc ⟨(.prod t26 (.prod t3 t3)), t4, fcIsSlotOf.sh, true⟩) else if k = 79 then some (.sc ⟨(.prod t3 (.prod t3 t3)), t4, fcWithin.sh, true⟩) else none
theorem Psi_k98_ok : PsiOk Try.prog noU Psi_k98 := by
  intro k c h
  unfold Psi_k98 at h
  split at h
  · cases h; subst_vars; exact ⟨spec_k66, fun _ _ => M.det_det⟩
  split at h
  · cases h; subst_vars; exact ⟨spec_k69, fun _ _ => M.det_det⟩
  split at h
  · cases h; subst_vars; exact ⟨spec_k79, fun _ _ => M.det_det⟩
  cases h
def ann_k98 : Ann := (.seq .leaf (.seq .leaf .leaf))
theorem l_k98 (x) : codeI noU (tabT tab) noPhi Psi_k98 ann_k98 b_k98 (capsSt 1 (parSt (.prod t54 (.ptr t26)) x)) (retI (tabT tab) Try.f98.results.toList t4) = S_parts_isWorkshop_c4 fcIsSpare.sh fcIsSlotOf.sh fcWithin.sh x := by kernel_rfl
theorem spec_k98 : FnSpec Try.prog 98 (.prod t54 (.ptr t26)) t4 fcTrialC.sh :=
  fnC_ok (n := 1) mixOk tabOk noU_ok noPhi_ok Psi_k98_ok Try.func98 b_k98_ok (by kernel_rfl) fun x => M.le_req (fun h => by obtain ⟨f, hf, _⟩ := h; exact caps_pre ⟨trivial, isSome_of hf⟩) (M.le_trans (M.le_of_eq (l_k98 x)) (sPIsW4 x))
noncomputable def b_k129 : Code := Try.f129.body.getD .skip
theorem b_k129_ok : Try.f129.body = some b_k129 := by kernel_rfl
noncomputable def Psi_k129 (k : Nat) : Option KC := none
theorem Psi_k129_ok : PsiOk Try.prog noU Psi_k129 := by
  intro k c h
  unfold Psi_k129 at h
  cases h
def ann_k129 : Ann := (.seq .leaf (.join ⟨[], []⟩ (.seq .leaf (.block (.loop ⟨[(0, .val t22), (1, .val t137), (7, .val t3), (8, .val t3)], []⟩ (.seq .leaf (.seq (.cond .leaf .leaf) (.seq (.block (.seq .leaf (.seq .leaf (.cond (.seq .leaf .leaf) .leaf)))) .leaf)))))) (.seq .leaf .leaf)))
theorem l_k129 (x) : funI noU (tabT tab) noPhi Psi_k129 Try.f129 b_k129 ann_k129 (.prod t22 t137) t3 x = S_slices_IndexFunc_api_Spare_api_Spare  x := by kernel_rfl
theorem spec_k129 : FnSpec Try.prog 129 (.prod t22 t137) t3 (fcIndexFunc t30).sh :=
  fn_ok mixOk tabOk noU_ok noPhi_ok Psi_k129_ok Try.func129 b_k129_ok (by kernel_rfl) fun x => M.le_trans (M.le_of_eq (l_k129 x)) (sIndexFunc t30 x)
noncomputable def b_k117 : Code := Try.f117.body.getD .skip
theorem b_k117_ok : Try.f117.body = some b_k117 := by kernel_rfl
noncomputable def Psi_k117 (k : Nat) : Option KC := if k = 129 then some (.sc ⟨(.prod t22 t137), t3, (fcIndexFunc t30).sh, true⟩) else none
theorem Psi_k117_ok : PsiOk Try.prog noU Psi_k117 := by
  intro k c h
  unfold Psi_k117 at h
  split at h
  · cases h; subst_vars; exact ⟨spec_k129, fun _ _ => M.det_det⟩
  cases h
def ann_k117 : Ann := (.seq .leaf (.seq .leaf .leaf))
theorem l_k117 (x) : funI noU (tabT tab) noPhi Psi_k117 Try.f117 b_k117 ann_k117 (.prod t22 t137) t4 x = S_slices_ContainsFunc_api_Spare_api_Spare (fcIndexFunc t30).sh x := by kernel_rfl
theorem spec_k117 : FnSpec Try.prog 117 (.prod t22 t137) t4 (fcContainsFunc t30).sh :=
  fn_ok mixOk tabOk noU_ok noPhi_ok Psi_k117_ok Try.func117 b_k117_ok (by kernel_rfl) fun x => M.le_trans (M.le_of_eq (l_k117 x)) (sContainsFunc t30 x)
noncomputable def b_k118 : Code := Try.f118.body.getD .skip
theorem b_k118_ok : Try.f118.body = some b_k118 := by kernel_rfl
noncomputable def Psi_k118 (k : Nat) : Option KC := none
theorem Psi_k118_ok : PsiOk Try.prog noU Psi_k118 := by
  intro k c h
  unfold Psi_k118 at h
  cases h
def ann_k118 : Ann := (.seq .leaf (.seq .leaf .leaf))
theorem l_k118 (x) : codeI noU (tabT tab) noPhi Psi_k118 ann_k118 b_k118 (capsSt 1 (parSt (.prod t30 (.ptr t137)) x)) (retI (tabT tab) Try.f118.results.toList t4) = S_parts_all_api_Spare__c1  x := by kernel_rfl
theorem spec_k118 : FnSpec Try.prog 118 (.prod t30 (.ptr t137)) t4 (fcAllC1 t30).sh :=
  fnC_ok (n := 1) mixOk tabOk noU_ok noPhi_ok Psi_k118_ok Try.func118 b_k118_ok (by kernel_rfl) fun x => M.le_req (fun h => by obtain ⟨f, hf, _⟩ := h; exact caps_pre ⟨trivial, isSome_of hf⟩) (M.le_trans (M.le_of_eq (l_k118 x)) (sAllC1 t30 x))
noncomputable def b_k99 : Code := Try.f99.body.getD .skip
theorem b_k99_ok : Try.f99.body = some b_k99 := by kernel_rfl
noncomputable def U_k99 : FnTab := ⟨fun k => none, fun k => if k = 118 then some ⟨[t30], [t137], t4, (fcAllC1 t30).sh⟩ else none⟩
theorem U_k99_ok : FnTabOk Try.prog U_k99 where
  fnv := by
    intro k v h
    simp only [U_k99] at h
    cases h
  clv := by
    intro k v h
    simp only [U_k99] at h
    split at h
    · cases h; subst_vars; exact ⟨rfl, spec_k118⟩
    cases h
noncomputable def Psi_k99 (k : Nat) : Option KC := if k = 117 then some (.sc ⟨(.prod t22 t137), t4, (fcContainsFunc t30).sh, true⟩) else none
theorem Psi_k99_ok : PsiOk Try.prog U_k99 Psi_k99 := by
  intro k c h
  unfold Psi_k99 at h
  split at h
  · cases h; subst_vars; exact ⟨spec_k117, fun _ _ => M.det_det⟩
  cases h
def ann_k99 : Ann := (.seq .leaf (.seq .leaf .leaf))
theorem l_k99 (x) : funI U_k99 (tabT tab) noPhi Psi_k99 Try.f99 b_k99 ann_k99 (.prod t22 t137) t4 x = S_parts_all_api_Spare (fcContainsFunc t30).sh (fcAllC1 t30).sh x := by kernel_rfl
theorem spec_k99 : FnSpec Try.prog 99 (.prod t22 t137) t4 (fcAllF t30).sh :=
  fn_ok mixOk tabOk U_k99_ok noPhi_ok Psi_k99_ok Try.func99 b_k99_ok (by kernel_rfl) fun x => M.le_trans (M.le_of_eq (l_k99 x)) (sAllF t30 x)
noncomputable def b_k130 : Code := Try.f130.body.getD .skip
theorem b_k130_ok : Try.f130.body = some b_k130 := by kernel_rfl
noncomputable def Psi_k130 (k : Nat) : Option KC := none
theorem Psi_k130_ok : PsiOk Try.prog noU Psi_k130 := by
  intro k c h
  unfold Psi_k130 at h
  cases h
def ann_k130 : Ann := (.seq .leaf (.join ⟨[], []⟩ (.seq .leaf (.block (.loop ⟨[(0, .val t23), (1, .val t140), (7, .val t3), (8, .val t3)], []⟩ (.seq .leaf (.seq (.cond .leaf .leaf) (.seq (.block (.seq .leaf (.seq .leaf (.cond (.seq .leaf .leaf) .leaf)))) .leaf)))))) (.seq .leaf .leaf)))
theorem l_k130 (x) : funI noU (tabT tab) noPhi Psi_k130 Try.f130 b_k130 ann_k130 (.prod t23 t140) t3 x = S_slices_IndexFunc_api_Make_api_Make  x := by kernel_rfl
theorem spec_k130 : FnSpec Try.prog 130 (.prod t23 t140) t3 (fcIndexFunc t74).sh :=
  fn_ok mixOk tabOk noU_ok noPhi_ok Psi_k130_ok Try.func130 b_k130_ok (by kernel_rfl) fun x => M.le_trans (M.le_of_eq (l_k130 x)) (sIndexFunc t74 x)
noncomputable def b_k119 : Code := Try.f119.body.getD .skip
theorem b_k119_ok : Try.f119.body = some b_k119 := by kernel_rfl
noncomputable def Psi_k119 (k : Nat) : Option KC := if k = 130 then some (.sc ⟨(.prod t23 t140), t3, (fcIndexFunc t74).sh, true⟩) else none
theorem Psi_k119_ok : PsiOk Try.prog noU Psi_k119 := by
  intro k c h
  unfold Psi_k119 at h
  split at h
  · cases h; subst_vars; exact ⟨spec_k130, fun _ _ => M.det_det⟩
  cases h
def ann_k119 : Ann := (.seq .leaf (.seq .leaf .leaf))
theorem l_k119 (x) : funI noU (tabT tab) noPhi Psi_k119 Try.f119 b_k119 ann_k119 (.prod t23 t140) t4 x = S_slices_ContainsFunc_api_Make_api_Make (fcIndexFunc t74).sh x := by kernel_rfl
theorem spec_k119 : FnSpec Try.prog 119 (.prod t23 t140) t4 (fcContainsFunc t74).sh :=
  fn_ok mixOk tabOk noU_ok noPhi_ok Psi_k119_ok Try.func119 b_k119_ok (by kernel_rfl) fun x => M.le_trans (M.le_of_eq (l_k119 x)) (sContainsFunc t74 x)
noncomputable def b_k120 : Code := Try.f120.body.getD .skip
theorem b_k120_ok : Try.f120.body = some b_k120 := by kernel_rfl
noncomputable def Psi_k120 (k : Nat) : Option KC := none
theorem Psi_k120_ok : PsiOk Try.prog noU Psi_k120 := by
  intro k c h
  unfold Psi_k120 at h
  cases h
def ann_k120 : Ann := (.seq .leaf (.seq .leaf .leaf))
theorem l_k120 (x) : codeI noU (tabT tab) noPhi Psi_k120 ann_k120 b_k120 (capsSt 1 (parSt (.prod t74 (.ptr t140)) x)) (retI (tabT tab) Try.f120.results.toList t4) = S_parts_all_api_Make__c1  x := by kernel_rfl
theorem spec_k120 : FnSpec Try.prog 120 (.prod t74 (.ptr t140)) t4 (fcAllC1 t74).sh :=
  fnC_ok (n := 1) mixOk tabOk noU_ok noPhi_ok Psi_k120_ok Try.func120 b_k120_ok (by kernel_rfl) fun x => M.le_req (fun h => by obtain ⟨f, hf, _⟩ := h; exact caps_pre ⟨trivial, isSome_of hf⟩) (M.le_trans (M.le_of_eq (l_k120 x)) (sAllC1 t74 x))
noncomputable def b_k100 : Code := Try.f100.body.getD .skip
theorem b_k100_ok : Try.f100.body = some b_k100 := by kernel_rfl
noncomputable def U_k100 : FnTab := ⟨fun k => none, fun k => if k = 120 then some ⟨[t74], [t140], t4, (fcAllC1 t74).sh⟩ else none⟩
theorem U_k100_ok : FnTabOk Try.prog U_k100 where
  fnv := by
    intro k v h
    simp only [U_k100] at h
    cases h
  clv := by
    intro k v h
    simp only [U_k100] at h
    split at h
    · cases h; subst_vars; exact ⟨rfl, spec_k120⟩
    cases h
noncomputable def Psi_k100 (k : Nat) : Option KC := if k = 119 then some (.sc ⟨(.prod t23 t140), t4, (fcContainsFunc t74).sh, true⟩) else none
theorem Psi_k100_ok : PsiOk Try.prog U_k100 Psi_k100 := by
  intro k c h
  unfold Psi_k100 at h
  split at h
  · cases h; subst_vars; exact ⟨spec_k119, fun _ _ => M.det_det⟩
  cases h
def ann_k100 : Ann := (.seq .leaf (.seq .leaf .leaf))
theorem l_k100 (x) : funI U_k100 (tabT tab) noPhi Psi_k100 Try.f100 b_k100 ann_k100 (.prod t23 t140) t4 x = S_parts_all_api_Make (fcContainsFunc t74).sh (fcAllC1 t74).sh x := by kernel_rfl
theorem spec_k100 : FnSpec Try.prog 100 (.prod t23 t140) t4 (fcAllF t74).sh :=
  fn_ok mixOk tabOk U_k100_ok noPhi_ok Psi_k100_ok Try.func100 b_k100_ok (by kernel_rfl) fun x => M.le_trans (M.le_of_eq (l_k100 x)) (sAllF t74 x)
noncomputable def b_k131 : Code := Try.f131.body.getD .skip
theorem b_k131_ok : Try.f131.body = some b_k131 := by kernel_rfl
noncomputable def Psi_k131 (k : Nat) : Option KC := none
theorem Psi_k131_ok : PsiOk Try.prog noU Psi_k131 := by
  intro k c h
  unfold Psi_k131 at h
  cases h
def ann_k131 : Ann := (.seq .leaf (.join ⟨[], []⟩ (.seq .leaf (.block (.loop ⟨[(0, .val t24), (1, .val t141), (7, .val t3), (8, .val t3)], []⟩ (.seq .leaf (.seq (.cond .leaf .leaf) (.seq (.block (.seq .leaf (.seq .leaf (.cond (.seq .leaf .leaf) .leaf)))) .leaf)))))) (.seq .leaf .leaf)))
theorem l_k131 (x) : funI noU (tabT tab) noPhi Psi_k131 Try.f131 b_k131 ann_k131 (.prod t24 t141) t3 x = S_slices_IndexFunc_api_Trial_api_Trial  x := by kernel_rfl
theorem spec_k131 : FnSpec Try.prog 131 (.prod t24 t141) t3 (fcIndexFunc t54).sh :=
  fn_ok mixOk tabOk noU_ok noPhi_ok Psi_k131_ok Try.func131 b_k131_ok (by kernel_rfl) fun x => M.le_trans (M.le_of_eq (l_k131 x)) (sIndexFunc t54 x)
noncomputable def b_k121 : Code := Try.f121.body.getD .skip
theorem b_k121_ok : Try.f121.body = some b_k121 := by kernel_rfl
noncomputable def Psi_k121 (k : Nat) : Option KC := if k = 131 then some (.sc ⟨(.prod t24 t141), t3, (fcIndexFunc t54).sh, true⟩) else none
theorem Psi_k121_ok : PsiOk Try.prog noU Psi_k121 := by
  intro k c h
  unfold Psi_k121 at h
  split at h
  · cases h; subst_vars; exact ⟨spec_k131, fun _ _ => M.det_det⟩
  cases h
def ann_k121 : Ann := (.seq .leaf (.seq .leaf .leaf))
theorem l_k121 (x) : funI noU (tabT tab) noPhi Psi_k121 Try.f121 b_k121 ann_k121 (.prod t24 t141) t4 x = S_slices_ContainsFunc_api_Trial_api_Trial (fcIndexFunc t54).sh x := by kernel_rfl
theorem spec_k121 : FnSpec Try.prog 121 (.prod t24 t141) t4 (fcContainsFunc t54).sh :=
  fn_ok mixOk tabOk noU_ok noPhi_ok Psi_k121_ok Try.func121 b_k121_ok (by kernel_rfl) fun x => M.le_trans (M.le_of_eq (l_k121 x)) (sContainsFunc t54 x)
noncomputable def b_k122 : Code := Try.f122.body.getD .skip
theorem b_k122_ok : Try.f122.body = some b_k122 := by kernel_rfl
noncomputable def Psi_k122 (k : Nat) : Option KC := none
theorem Psi_k122_ok : PsiOk Try.prog noU Psi_k122 := by
  intro k c h
  unfold Psi_k122 at h
  cases h
def ann_k122 : Ann := (.seq .leaf (.seq .leaf .leaf))
theorem l_k122 (x) : codeI noU (tabT tab) noPhi Psi_k122 ann_k122 b_k122 (capsSt 1 (parSt (.prod t54 (.ptr t141)) x)) (retI (tabT tab) Try.f122.results.toList t4) = S_parts_all_api_Trial__c1  x := by kernel_rfl
theorem spec_k122 : FnSpec Try.prog 122 (.prod t54 (.ptr t141)) t4 (fcAllC1 t54).sh :=
  fnC_ok (n := 1) mixOk tabOk noU_ok noPhi_ok Psi_k122_ok Try.func122 b_k122_ok (by kernel_rfl) fun x => M.le_req (fun h => by obtain ⟨f, hf, _⟩ := h; exact caps_pre ⟨trivial, isSome_of hf⟩) (M.le_trans (M.le_of_eq (l_k122 x)) (sAllC1 t54 x))
noncomputable def b_k101 : Code := Try.f101.body.getD .skip
theorem b_k101_ok : Try.f101.body = some b_k101 := by kernel_rfl
noncomputable def U_k101 : FnTab := ⟨fun k => none, fun k => if k = 122 then some ⟨[t54], [t141], t4, (fcAllC1 t54).sh⟩ else none⟩
theorem U_k101_ok : FnTabOk Try.prog U_k101 where
  fnv := by
    intro k v h
    simp only [U_k101] at h
    cases h
  clv := by
    intro k v h
    simp only [U_k101] at h
    split at h
    · cases h; subst_vars; exact ⟨rfl, spec_k122⟩
    cases h
noncomputable def Psi_k101 (k : Nat) : Option KC := if k = 121 then some (.sc ⟨(.prod t24 t141), t4, (fcContainsFunc t54).sh, true⟩) else none
theorem Psi_k101_ok : PsiOk Try.prog U_k101 Psi_k101 := by
  intro k c h
  unfold Psi_k101 at h
  split at h
  · cases h; subst_vars; exact ⟨spec_k121, fun _ _ => M.det_det⟩
  cases h
def ann_k101 : Ann := (.seq .leaf (.seq .leaf .leaf))
theorem l_k101 (x) : funI U_k101 (tabT tab) noPhi Psi_k101 Try.f101 b_k101 ann_k101 (.prod t24 t141) t4 x = S_parts_all_api_Trial (fcContainsFunc t54).sh (fcAllC1 t54).sh x := by kernel_rfl
theorem spec_k101 : FnSpec Try.prog 101 (.prod t24 t141) t4 (fcAllF t54).sh :=
  fn_ok mixOk tabOk U_k101_ok noPhi_ok Psi_k101_ok Try.func101 b_k101_ok (by kernel_rfl) fun x => M.le_trans (M.le_of_eq (l_k101 x)) (sAllF t54 x)
noncomputable def b_k63 : Code := Try.f63.body.getD .skip
theorem b_k63_ok : Try.f63.body = some b_k63 := by kernel_rfl
noncomputable def U_k63 : FnTab := ⟨fun k => if k = 92 then some ⟨t30, t4, fcSpareC.sh⟩ else if k = 95 then some ⟨t95, t4, fcIsSlot.sh⟩ else none, fun k => if k = 96 then some ⟨[t74], [t138], t4, fcMakeC.sh⟩ else if k = 98 then some ⟨[t54], [t26], t4, fcTrialC.sh⟩ else none⟩
theorem U_k63_ok : FnTabOk Try.prog U_k63 where
  fnv := by
    intro k v h
    simp only [U_k63] at h
    split at h
    · cases h; subst_vars; exact spec_k92
    split at h
    · cases h; subst_vars; exact spec_k95
    cases h
  clv := by
    intro k v h
    simp only [U_k63] at h
    split at h
    · cases h; subst_vars; exact ⟨rfl, spec_k96⟩
    split at h
    · cases h; subst_vars; exact ⟨rfl, spec_k98⟩
    cases h
noncomputable def Psi_k63 (k : Nat) : Option KC := if k = 79 then some (.sc ⟨(.prod t3 (.prod t3 t3)), t4, fcWithin.sh, true⟩) else if k = 99 then some (.sc ⟨(.prod t22 t137), t4, (fcAllF t30).sh, true⟩) else if k = 100 then some (.sc ⟨(.prod t23 t140), t4, (fcAllF t74).sh, true⟩) else if k = 101 then some (.sc ⟨(.prod t24 t141), t4, (fcAllF t54).sh, true⟩) else none
theorem Psi_k63_ok : PsiOk Try.prog U_k63 Psi_k63 := by
  intro k c h
  unfold Psi_k63 at h
  split at h
  · cases h; subst_vars; exact ⟨spec_k79, fun _ _ => M.det_det⟩
  split at h
  · cases h; subst_vars; exact ⟨spec_k99, fun _ _ => M.det_det⟩
  split at h
  · cases h; subst_vars; exact ⟨spec_k100, fun _ _ => M.det_det⟩
  split at h
  · cases h; subst_vars; exact ⟨spec_k101, fun _ _ => M.det_det⟩
  cases h
def ann_k63 : Ann := (.seq .leaf (.seq .leaf (.seq .leaf (.seq .leaf (.seq .leaf (.seq .leaf .leaf))))))
theorem l_k63 (x) : funI U_k63 (tabT tab) noPhi Psi_k63 Try.f63 b_k63 ann_k63 t26 t4 x = S_parts_isWorkshop fcWithin.sh (fcAllF t30).sh (fcAllF t74).sh (fcAllF t54).sh fcMakeC.sh fcTrialC.sh fcSpareC.sh fcIsSlot.sh x := by kernel_rfl
theorem spec_k63 : FnSpec Try.prog 63 t26 t4 fcIsWorkshop.sh :=
  fn_ok mixOk tabOk U_k63_ok noPhi_ok Psi_k63_ok Try.func63 b_k63_ok (by kernel_rfl) fun x => M.le_trans (M.le_of_eq (l_k63 x)) (sPIsWorkshop x)
noncomputable def b_k25 : Code := Try.f25.body.getD .skip
theorem b_k25_ok : Try.f25.body = some b_k25 := by kernel_rfl
noncomputable def Psi_k25 (k : Nat) : Option KC := if k = 63 then some (.sc ⟨t26, t4, fcIsWorkshop.sh, true⟩) else none
theorem Psi_k25_ok : PsiOk Try.prog noU Psi_k25 := by
  intro k c h
  unfold Psi_k25 at h
  split at h
  · cases h; subst_vars; exact ⟨spec_k63, fun _ _ => M.det_det⟩
  cases h
def ann_k25 : Ann := (.seq .leaf (.seq (.seq .leaf (.cond (.seq .leaf .leaf) .leaf)) (.seq .leaf (.join ⟨[], []⟩ (.seq .leaf (.block (.loop ⟨[(3, .mapl 12), (14, .val t24), (15, .val t3), (16, .val t3)], [(12, .mp t58 t3)]⟩ (.seq .leaf (.seq (.cond .leaf .leaf) (.seq (.block (.seq .leaf (.seq .leaf (.seq (.seq .leaf (.seq .leaf (.cond (.seq .leaf .leaf) .leaf))) .leaf)))) .leaf)))))) (.seq .leaf .leaf)))))
theorem l_k25 (x) : funI noU (tabT tab) noPhi Psi_k25 Try.f25 b_k25 ann_k25 t26 t33 x = S_parts_Check fcIsWorkshop.sh x := by kernel_rfl
theorem spec_k25 : FnSpec Try.prog 25 t26 t33 fcCheck.sh :=
  fn_ok mixOk tabOk noU_ok noPhi_ok Psi_k25_ok Try.func25 b_k25_ok (by kernel_rfl) fun x => M.le_trans (M.le_of_eq (l_k25 x)) (sPCheck x)
noncomputable def b_k132 : Code := Try.f132.body.getD .skip
theorem b_k132_ok : Try.f132.body = some b_k132 := by kernel_rfl
noncomputable def Psi_k132 (k : Nat) : Option KC := none
theorem Psi_k132_ok : PsiOk Try.prog noU Psi_k132 := by
  intro k c h
  unfold Psi_k132 at h
  cases h
def ann_k132 : Ann := (.seq .leaf (.join ⟨[], []⟩ (.seq .leaf (.block (.loop ⟨[(0, .val t36), (1, .val t3), (7, .val t3), (8, .val t3)], []⟩ (.seq .leaf (.seq (.cond .leaf .leaf) (.seq (.block (.seq .leaf (.seq .leaf (.cond (.seq .leaf .leaf) .leaf)))) .leaf)))))) (.seq .leaf .leaf)))
theorem l_k132 (x) : funI noU (tabT tab) noPhi Psi_k132 Try.f132 b_k132 ann_k132 (.prod t36 t3) t3 x = S_slices_Index_int_int  x := by kernel_rfl
theorem spec_k132 : FnSpec Try.prog 132 (.prod t36 t3) t3 fcIndex.sh :=
  fn_ok mixOk tabOk noU_ok noPhi_ok Psi_k132_ok Try.func132 b_k132_ok (by kernel_rfl) fun x => M.le_trans (M.le_of_eq (l_k132 x)) (sIndex x)
noncomputable def b_k123 : Code := Try.f123.body.getD .skip
theorem b_k123_ok : Try.f123.body = some b_k123 := by kernel_rfl
noncomputable def Psi_k123 (k : Nat) : Option KC := if k = 132 then some (.sc ⟨(.prod t36 t3), t3, fcIndex.sh, true⟩) else none
theorem Psi_k123_ok : PsiOk Try.prog noU Psi_k123 := by
  intro k c h
  unfold Psi_k123 at h
  split at h
  · cases h; subst_vars; exact ⟨spec_k132, fun _ _ => M.det_det⟩
  cases h
def ann_k123 : Ann := (.seq .leaf (.seq .leaf .leaf))
theorem l_k123 (x) : funI noU (tabT tab) noPhi Psi_k123 Try.f123 b_k123 ann_k123 (.prod t36 t3) t4 x = S_slices_Contains_int_int fcIndex.sh x := by kernel_rfl
theorem spec_k123 : FnSpec Try.prog 123 (.prod t36 t3) t4 fcIn.sh :=
  fn_ok mixOk tabOk noU_ok noPhi_ok Psi_k123_ok Try.func123 b_k123_ok (by kernel_rfl) fun x => M.le_trans (M.le_of_eq (l_k123 x)) (sContains x)
noncomputable def b_k105 : Code := Try.f105.body.getD .skip
theorem b_k105_ok : Try.f105.body = some b_k105 := by kernel_rfl
noncomputable def Psi_k105 (k : Nat) : Option KC := if k = 79 then some (.sc ⟨(.prod t3 (.prod t3 t3)), t4, fcWithin.sh, true⟩) else if k = 123 then some (.sc ⟨(.prod t36 t3), t4, fcIn.sh, true⟩) else none
theorem Psi_k105_ok : PsiOk Try.prog noU Psi_k105 := by
  intro k c h
  unfold Psi_k105 at h
  split at h
  · cases h; subst_vars; exact ⟨spec_k79, fun _ _ => M.det_det⟩
  split at h
  · cases h; subst_vars; exact ⟨spec_k123, fun _ _ => M.det_det⟩
  cases h
def ann_k105 : Ann := (.seq .leaf (.seq .leaf (.seq .leaf .leaf)))
theorem l_k105 (x) : funI noU (tabT tab) noPhi Psi_k105 Try.f105 b_k105 ann_k105 (.prod t26 (.prod t3 (.prod t3 (.prod t3 t3)))) t4 x = S_parts_fits fcWithin.sh fcIn.sh x := by kernel_rfl
theorem spec_k105 : FnSpec Try.prog 105 (.prod t26 (.prod t3 (.prod t3 (.prod t3 t3)))) t4 fcFitsAt.sh :=
  fn_ok mixOk tabOk noU_ok noPhi_ok Psi_k105_ok Try.func105 b_k105_ok (by kernel_rfl) fun x => M.le_trans (M.le_of_eq (l_k105 x)) (sPFits x)
noncomputable def b_k104 : Code := Try.f104.body.getD .skip
theorem b_k104_ok : Try.f104.body = some b_k104 := by kernel_rfl
noncomputable def Psi_k104 (k : Nat) : Option KC := if k = 105 then some (.sc ⟨(.prod t26 (.prod t3 (.prod t3 (.prod t3 t3)))), t4, fcFitsAt.sh, true⟩) else none
theorem Psi_k104_ok : PsiOk Try.prog noU Psi_k104 := by
  intro k c h
  unfold Psi_k104 at h
  split at h
  · cases h; subst_vars; exact ⟨spec_k105, fun _ _ => M.det_det⟩
  cases h
def ann_k104 : Ann := (.seq .leaf (.seq .leaf .leaf))
theorem l_k104 (x) : codeI noU (tabT tab) noPhi Psi_k104 ann_k104 b_k104 (capsSt 1 (parSt (.prod t54 (.prod (.ptr t3) (.prod (.ptr t26) (.ptr t3)))) x)) (retI (tabT tab) Try.f104.results.toList t4) = S_parts_open_c1 fcFitsAt.sh x := by kernel_rfl
theorem spec_k104 : FnSpec Try.prog 104 (.prod t54 (.prod (.ptr t3) (.prod (.ptr t26) (.ptr t3)))) t4 fcOpenC.sh :=
  fnC_ok (n := 1) mixOk tabOk noU_ok noPhi_ok Psi_k104_ok Try.func104 b_k104_ok (by kernel_rfl) fun x => M.le_req (fun h => by obtain ⟨i, w, n, hf, _⟩ := h; exact caps_pre ⟨⟨⟨trivial, isSome_of (congrArg (fun o => o.1) hf)⟩, isSome_of (congrArg (fun o => o.2.1) hf)⟩, isSome_of (congrArg (fun o => o.2.2) hf)⟩) (M.le_trans (M.le_of_eq (l_k104 x)) (sPOpenC x))
noncomputable def b_k65 : Code := Try.f65.body.getD .skip
theorem b_k65_ok : Try.f65.body = some b_k65 := by kernel_rfl
noncomputable def U_k65 : FnTab := ⟨fun k => none, fun k => if k = 104 then some ⟨[t54], [t3, t26, t3], t4, fcOpenC.sh⟩ else none⟩
theorem U_k65_ok : FnTabOk Try.prog U_k65 where
  fnv := by
    intro k v h
    simp only [U_k65] at h
    cases h
  clv := by
    intro k v h
    simp only [U_k65] at h
    split at h
    · cases h; subst_vars; exact ⟨rfl, spec_k104⟩
    cases h
noncomputable def Psi_k65 (k : Nat) : Option KC := if k = 25 then some (.sc ⟨t26, t33, fcCheck.sh, true⟩) else if k = 101 then some (.sc ⟨(.prod t24 t141), t4, (fcAllF t54).sh, true⟩) else none
theorem Psi_k65_ok : PsiOk Try.prog U_k65 Psi_k65 := by
  intro k c h
  unfold Psi_k65 at h
  split at h
  · cases h; subst_vars; exact ⟨spec_k25, fun _ _ => M.det_det⟩
  split at h
  · cases h; subst_vars; exact ⟨spec_k101, fun _ _ => M.det_det⟩
  cases h
def ann_k65 : Ann := (.seq .leaf (.seq (.seq .leaf (.seq .leaf (.cond (.seq .leaf .leaf) .leaf))) (.seq (.seq .leaf (.cond (.seq .leaf .leaf) .leaf)) (.seq .leaf (.join ⟨[(7, .loc 22 0)], [(22, .cells t110 [.val t22, .val t23, .val t3, .val t24, .own 61]), (61, .arr t36)]⟩ (.seq .leaf (.block (.loop ⟨[(2, .loc 2 0), (7, .loc 22 0), (24, .val t22), (25, .val t3), (26, .val t3)], [(2, .frzc t26), (22, .cells t110 [.val t22, .val t23, .val t3, .val t24, .own 61]), (61, .arr t36)]⟩ (.seq .leaf (.seq (.cond .leaf .leaf) (.join ⟨[(2, .loc 2 0), (7, .loc 22 0), (24, .val t22), (25, .val t3), (26, .val t3)], [(2, .frzc t26), (22, .cells t110 [.val t22, .val t23, .val t3, .val t24, .own 61]), (61, .arr t36)]⟩ (.block (.seq .leaf (.seq .leaf (.join ⟨[(2, .loc 2 0), (7, .loc 22 0), (10, .own 10), (24, .val t22), (25, .val t3), (26, .val t3)], [(2, .frzc t26), (10, .arr t3), (22, .cells t110 [.val t22, .val t23, .val t3, .val t24, .own 61]), (61, .arr t36)]⟩ (.seq .leaf (.block (.loop ⟨[(2, .loc 2 0), (7, .loc 22 0), (8, .loc 8 0), (9, .loc 9 0), (10, .own 10), (11, .loc 11 0), (24, .val t22), (25, .val t3), (26, .val t3)], [(2, .frzc t26), (8, .frzc t3), (9, .whole t30), (10, .arr t3), (11, .cells t3 [.val t3]), (22, .cells t110 [.val t22, .val t23, .val t3, .val t24, .own 61]), (61, .arr t36)]⟩ (.seq (.seq .leaf (.cond .leaf .leaf)) (.join ⟨[(2, .loc 2 0), (7, .loc 22 0), (8, .loc 8 0), (9, .loc 9 0), (10, .own 10), (11, .loc 11 0), (24, .val t22), (25, .val t3), (26, .val t3)], [(2, .frzc t26), (8, .frzc t3), (9, .whole t30), (10, .arr t3), (11, .frzc t3), (22, .cells t110 [.val t22, .val t23, .val t3, .val t24, .own 61]), (61, .arr t36)]⟩ (.block (.seq .leaf (.seq .leaf (.cond .leaf .leaf)))) (.seq (.seq .leaf .leaf) .leaf)))))) (.seq (.seq .leaf (.cond (.seq .leaf .leaf) .leaf)) .leaf))))) .leaf)))))) (.seq .leaf .leaf))))))
theorem l_k65 (x) : funI U_k65 (tabT tab) noPhi Psi_k65 Try.f65 b_k65 ann_k65 (.prod t26 t4) (.prod t105 t33) x = S_parts_open fcCheck.sh (fcAllF t54).sh fcOpenC.sh x := by kernel_rfl
theorem spec_k65 : FnSpec Try.prog 65 (.prod t26 t4) (.prod t105 t33) fcOpen.sh :=
  fn_ok mixOk tabOk U_k65_ok noPhi_ok Psi_k65_ok Try.func65 b_k65_ok (by kernel_rfl) fun x => M.le_trans (M.le_of_eq (l_k65 x)) (sPOpen x)
noncomputable def b_k58 : Code := Try.f58.body.getD .skip
theorem b_k58_ok : Try.f58.body = some b_k58 := by kernel_rfl
noncomputable def Psi_k58 (k : Nat) : Option KC := none
theorem Psi_k58_ok : PsiOk Try.prog noU Psi_k58 := by
  intro k c h
  unfold Psi_k58 at h
  cases h
def ann_k58 : Ann := (.seq .leaf (.seq .leaf (.join ⟨[(3, .own 3)], [(3, .arr t3)]⟩ (.seq .leaf (.block (.loop ⟨[(0, .val t92), (3, .own 3), (5, .val t3)], [(3, .arr t3)]⟩ (.seq .leaf (.seq (.cond .leaf .leaf) (.join ⟨[(0, .val t92), (3, .own 3), (5, .val t3)], [(3, .arr t3)]⟩ (.block (.seq .leaf (.seq .leaf (.cond .leaf .leaf)))) .leaf)))))) (.seq .leaf .leaf))))
theorem l_k58 (x) : funI noU (tabT tab) noPhi Psi_k58 Try.f58 b_k58 ann_k58 t92 t36 x = S_parts_list  x := by kernel_rfl
theorem spec_k58 : FnSpec Try.prog 58 t92 t36 fcList.sh :=
  fn_ok mixOk tabOk noU_ok noPhi_ok Psi_k58_ok Try.func58 b_k58_ok (by kernel_rfl) fun x => M.le_trans (M.le_of_eq (l_k58 x)) (sList x)
noncomputable def b_k106 : Code := Try.f106.body.getD .skip
theorem b_k106_ok : Try.f106.body = some b_k106 := by kernel_rfl
noncomputable def Psi_k106 (k : Nat) : Option KC := none
theorem Psi_k106_ok : PsiOk Try.prog noU Psi_k106 := by
  intro k c h
  unfold Psi_k106 at h
  cases h
def ann_k106 : Ann := (.seq .leaf (.seq (.seq .leaf (.block (.seq .leaf (.cond (.seq .leaf .leaf) (.seq .leaf (.cond (.seq .leaf .leaf) .leaf)))))) (.seq .leaf .leaf)))
theorem l_k106 (x) : funI noU (tabT tab) noPhi Psi_k106 Try.f106 b_k106 ann_k106 (.prod t3 t3) t3 x = S_parts_known  x := by kernel_rfl
theorem spec_k106 : FnSpec Try.prog 106 (.prod t3 t3) t3 fcIs.sh :=
  fn_ok mixOk tabOk noU_ok noPhi_ok Psi_k106_ok Try.func106 b_k106_ok (by kernel_rfl) fun x => M.le_trans (M.le_of_eq (l_k106 x)) (sPKnown x)
noncomputable def b_k111 : Code := Try.f111.body.getD .skip
theorem b_k111_ok : Try.f111.body = some b_k111 := by kernel_rfl
noncomputable def Psi_k111 (k : Nat) : Option KC := if k = 105 then some (.sc ⟨(.prod t26 (.prod t3 (.prod t3 (.prod t3 t3)))), t4, fcFitsAt.sh, true⟩) else none
theorem Psi_k111_ok : PsiOk Try.prog noU Psi_k111 := by
  intro k c h
  unfold Psi_k111 at h
  split at h
  · cases h; subst_vars; exact ⟨spec_k105, fun _ _ => M.det_det⟩
  cases h
def ann_k111 : Ann := (.seq .leaf (.seq .leaf (.join ⟨[(7, .val t126)], []⟩ (.seq .leaf (.block (.loop ⟨[(0, .val t105), (2, .val t3), (7, .val t126), (18, .val t36), (19, .val t3), (20, .val t3)], []⟩ (.seq .leaf (.seq (.cond .leaf .leaf) (.join ⟨[(0, .val t105), (2, .val t3), (7, .mapl 24), (18, .val t36), (19, .val t3), (20, .val t3)], [(24, .mp t3 t3)]⟩ (.block (.seq .leaf (.seq .leaf (.join ⟨[(0, .val t105), (2, .val t3), (10, .mapl 24), (18, .val t36), (19, .val t3), (20, .val t3)], [(24, .mp t3 t3)]⟩ (.seq .leaf (.block (.loop ⟨[(0, .val t105), (2, .val t3), (7, .val t126), (9, .val t3), (10, .mapl 24), (18, .val t36), (19, .val t3), (20, .val t3), (31, .val t36), (32, .val t3), (33, .val t3)], [(24, .mp t3 t3)]⟩ (.seq .leaf (.seq (.cond .leaf .leaf) (.join ⟨[(0, .val t105), (2, .val t3), (7, .val t126), (9, .val t3), (10, .mapl 24), (18, .val t36), (19, .val t3), (20, .val t3), (31, .val t36), (32, .val t3), (33, .val t3)], [(24, .mp t3 t3)]⟩ (.block (.seq .leaf (.seq .leaf (.join ⟨[(0, .val t105), (2, .val t3), (7, .val t126), (9, .val t3), (10, .mapl 24), (13, .val t3), (18, .val t36), (19, .val t3), (20, .val t3), (31, .val t36), (32, .val t3), (33, .val t3)], [(24, .mp t3 t3)]⟩ (.seq .leaf (.block (.loop ⟨[(0, .val t105), (2, .val t3), (7, .val t126), (9, .val t3), (10, .mapl 24), (12, .val t3), (13, .val t3), (18, .val t36), (19, .val t3), (20, .val t3), (31, .val t36), (32, .val t3), (33, .val t3), (46, .val t3), (47, .val t3)], [(24, .mp t3 t3)]⟩ (.seq .leaf (.seq (.cond .leaf .leaf) (.join ⟨[(0, .val t105), (2, .val t3), (7, .val t126), (9, .val t3), (10, .mapl 24), (12, .val t3), (13, .val t3), (18, .val t36), (19, .val t3), (20, .val t3), (31, .val t36), (32, .val t3), (33, .val t3), (46, .val t3), (47, .val t3)], [(24, .mp t3 t3)]⟩ (.block (.seq .leaf (.seq .leaf (.cond .leaf .leaf)))) .leaf)))))) (.seq .leaf (.block (.loop ⟨[(0, .val t105), (2, .val t3), (7, .val t126), (9, .val t3), (10, .mapl 24), (13, .val t3), (18, .val t36), (19, .val t3), (20, .val t3), (31, .val t36), (32, .val t3), (33, .val t3), (65, .iter 65)], [(24, .mp t3 t3), (65, .it t3 t3)]⟩ (.seq .leaf (.seq (.cond .leaf .leaf) (.block (.seq .leaf .leaf))))))))))) .leaf)))))) .leaf)))) .leaf)))))) (.seq .leaf .leaf))))
theorem l_k111 (x) : funI noU (tabT tab) noPhi Psi_k111 Try.f111 b_k111 ann_k111 (.prod t105 (.prod t36 t3)) t126 x = S_parts_shop_mended fcFitsAt.sh x := by kernel_rfl
theorem spec_k111 : FnSpec Try.prog 111 (.prod t105 (.prod t36 t3)) t126 shMended :=
  fn_ok mixOk tabOk noU_ok noPhi_ok Psi_k111_ok Try.func111 b_k111_ok (by kernel_rfl) fun x => M.le_trans (M.le_of_eq (l_k111 x)) (sMended x)
noncomputable def b_k80 : Code := Try.f80.body.getD .skip
theorem b_k80_ok : Try.f80.body = some b_k80 := by kernel_rfl
noncomputable def Psi_k80 (k : Nat) : Option KC := if k = 106 then some (.sc ⟨(.prod t3 t3), t3, fcIs.sh, true⟩) else if k = 111 then some (.sc ⟨(.prod t105 (.prod t36 t3)), t126, shMended, false⟩) else none
theorem Psi_k80_ok : PsiOk Try.prog noU Psi_k80 := by
  intro k c h
  unfold Psi_k80 at h
  split at h
  · cases h; subst_vars; exact ⟨spec_k106, fun _ _ => M.det_det⟩
  split at h
  · cases h; subst_vars; exact ⟨spec_k111, fun h => by cases h⟩
  cases h
def ann_k80 : Ann := (.seq .leaf (.seq .leaf (.seq .leaf (.join ⟨[(7, .val t126), (8, .val t3)], []⟩ (.seq .leaf (.cond .leaf .leaf)) (.seq .leaf .leaf)))))
theorem l_k80 (x) : funI noU (tabT tab) noPhi Psi_k80 Try.f80 b_k80 ann_k80 (.prod t105 (.prod t36 t3)) t3 x = S_parts_shop_mends fcIs.sh shMended x := by kernel_rfl
theorem spec_k80 : FnSpec Try.prog 80 (.prod t105 (.prod t36 t3)) t3 fcShopMends.sh :=
  fn_ok mixOk tabOk noU_ok noPhi_ok Psi_k80_ok Try.func80 b_k80_ok (by kernel_rfl) fun x => M.le_trans (M.le_of_eq (l_k80 x)) (sShopMends x)
noncomputable def b_klists : Code := Try.f84.body.getD .skip
theorem b_klists_ok : Try.f84.body = some b_klists := by kernel_rfl
noncomputable def Psi_klists (k : Nat) : Option KC := if k = 57 then some (.sc ⟨t92, t3, fcOnes.sh, true⟩) else if k = 58 then some (.sc ⟨t92, t36, fcList.sh, true⟩) else if k = 80 then some (.sc ⟨(.prod t105 (.prod t36 t3)), t3, fcShopMends.sh, true⟩) else none
theorem Psi_klists_ok : PsiOk Try.prog noU Psi_klists := by
  intro k c h
  unfold Psi_klists at h
  split at h
  · cases h; subst_vars; exact ⟨spec_k57, fun _ _ => M.det_det⟩
  split at h
  · cases h; subst_vars; exact ⟨spec_k58, fun _ _ => M.det_det⟩
  split at h
  · cases h; subst_vars; exact ⟨spec_k80, fun _ _ => M.det_det⟩
  cases h
noncomputable def ioc_lists : IOC := ⟨⟨[(0, .val t105), (1, .yld), (1000000, .tr t92)], []⟩, ⟨[(1000000, .tr t92)], []⟩, [], 2, (S_parts_shop_lists fcOnes.sh fcList.sh fcShopMends.sh)⟩
def ann_klists : Ann := (.seq .leaf (.block (.loop ⟨[(0, .val t105), (1, .yld), (13, .val t3), (14, .val t3), (1000000, .tr t92)], []⟩ (.seq .leaf (.seq (.cond .leaf .leaf) (.join ⟨[(0, .val t105), (1, .yld), (13, .val t3), (14, .val t3), (1000000, .tr t92)], []⟩ (.block (.seq .leaf (.scope (.seq .leaf (.seq .leaf (.block (.loop ⟨[(0, .val t105), (1, .yld), (4, .val t3), (13, .val t3), (14, .val t3), (23, .val t92), (24, .val t92), (1000000, .tr t92)], []⟩ (.seq .leaf (.seq (.cond .leaf .leaf) (.join ⟨[(0, .val t105), (1, .yld), (4, .val t3), (13, .val t3), (14, .val t3), (23, .val t92), (24, .val t92), (1000000, .tr t92)], []⟩ (.block (.seq .leaf (.seq (.seq .leaf (.cond .leaf .leaf)) (.join ⟨[(0, .val t105), (1, .yld), (4, .val t3), (5, .val t92), (13, .val t3), (14, .val t3), (23, .val t92), (24, .val t92), (1000000, .tr t92)], []⟩ (.seq .leaf (.block (.loop ⟨[(0, .val t105), (1, .yld), (4, .val t3), (5, .val t92), (13, .val t3), (14, .val t3), (23, .val t92), (24, .val t92), (36, .val t3), (37, .val t3), (1000000, .tr t92)], []⟩ (.seq .leaf (.seq (.cond .leaf .leaf) (.seq (.block (.seq .leaf (.seq .leaf (.cond .leaf .leaf)))) .leaf)))))) (.seq .leaf (.cond .leaf .leaf)))))) .leaf)))))))))) .leaf))))))
theorem l_klists (x) : funIO noU (tabT tab) noPhi Psi_klists Try.f84 b_klists ann_klists ⟨[(0, .val t105), (1, .yld), (1000000, .tr t92)], []⟩ ⟨[(1000000, .tr t92)], []⟩ [] x = S_parts_shop_lists fcOnes.sh fcList.sh fcShopMends.sh x := by kernel_rfl
theorem io_lists : IoSpec Try.prog noU 84 ioc_lists :=
  fnIO_ok mixOk tabOk noPhi_ok Psi_klists_ok Try.func84 b_klists_ok (by kernel_rfl) fun x => M.le_trans (M.le_of_eq (l_klists x)) (M.le_refl <| S_parts_shop_lists fcOnes.sh fcList.sh fcShopMends.sh x)
noncomputable def itc_lists : ITC := ⟨t105, t92, listsPre, listsSeq⟩
theorem itc_lists_ok : ItSpec Try.prog 84 itc_lists := it_of_io (c := ioc_lists) io_lists noU_ok (ic := itc_lists) (fun x l L => (x, l, (l, L, 0, false), ())) rfl (by decide) (by simp [itc_lists])
  (fun x l L i => by
    by_cases h0 : i = 0
    · subst h0; exact .inr (.inl ⟨by decide, rfl⟩)
    · by_cases h1 : i = 1
      · subst h1; exact .inr (.inr (.inl ⟨rfl, rfl⟩))
      · by_cases h2 : i = TRS
        · subst h2; exact .inr (.inr (.inr ⟨rfl, rfl⟩))
        · refine .inl ?_
          exact (if_neg h0).trans ((if_neg h1).trans (if_neg h2)))
  rfl (fun τ => ⟨_, _, _, _, rfl⟩) (fun x l hp => by
    obtain ⟨w, hs, hw⟩ := hp
    subst hs
    have h := rLists w l hw
    refine ⟨h.1, fun τ hτ l' L' n hsl => ?_⟩
    have e : AV.tr τ.1.1 t92 τ.1.2.1 τ.1.2.2.1 τ.1.2.2.2 = .tr l' t92 L' n false := hsl
    injection e with e1 e2 e3 e4 e5
    exact e4.symm.trans ((h.2 τ hτ).2.2 e5))
noncomputable def b_k56 : Code := Try.f56.body.getD .skip
theorem b_k56_ok : Try.f56.body = some b_k56 := by kernel_rfl
noncomputable def Psi_k56 (k : Nat) : Option KC := if k = 57 then some (.sc ⟨t92, t3, fcOnes.sh, true⟩) else if k = 65 then some (.sc ⟨(.prod t26 t4), (.prod t105 t33), fcOpen.sh, true⟩) else if k = 84 then some (.it itc_lists) else none
theorem Psi_k56_ok : PsiOk Try.prog noU Psi_k56 := by
  intro k c h
  unfold Psi_k56 at h
  split at h
  · cases h; subst_vars; exact ⟨spec_k57, fun _ _ => M.det_det⟩
  split at h
  · cases h; subst_vars; exact ⟨spec_k65, fun _ _ => M.det_det⟩
  split at h
  · cases h; subst_vars; exact itc_lists_ok
  cases h
def ann_k56 : Ann := (.seq .leaf (.seq .leaf (.seq (.seq .leaf (.cond (.seq .leaf .leaf) .leaf)) (.seq .leaf (.join ⟨[(6, .loc 6 0)], [(6, .cells t88 [.own 50000]), (50000, .arr t92)]⟩ (.seq .leaf (.block (.range ⟨[(6, .loc 6 0)], [(6, .cells t88 [.own 50000]), (50000, .arr t92)]⟩ ⟨[(6, .loc 100006 0), (18, .val t92)], [(100006, .cells t88 [.own 150000]), (150000, .arr t92)]⟩ ⟨[], [(100006, .cells t88 [.own 150000]), (150000, .arr t92)]⟩ .leaf (.block (.seq (.seq .leaf (.cond .leaf .leaf)) .leaf))))) (.seq (.seq .leaf (.cond (.seq .leaf .leaf) .leaf)) (.seq .leaf .leaf)))))))
theorem l_k56 (x) : funI noU (tabT tab) noPhi Psi_k56 Try.f56 b_k56 ann_k56 t26 (.prod t88 t33) x = S_parts_fewest fcOnes.sh fcOpen.sh itc_lists.pre itc_lists.seq x := by kernel_rfl
theorem spec_k56 : FnSpec Try.prog 56 t26 (.prod t88 t33) fcFewSets.sh :=
  fn_ok mixOk tabOk noU_ok noPhi_ok Psi_k56_ok Try.func56 b_k56_ok (by kernel_rfl) fun x => M.le_trans (M.le_of_eq (l_k56 x)) (sFewSets x)
noncomputable def b_k15 : Code := Try.f15.body.getD .skip
theorem b_k15_ok : Try.f15.body = some b_k15 := by kernel_rfl
noncomputable def Psi_k15 (k : Nat) : Option KC := if k = 56 then some (.sc ⟨t26, (.prod t88 t33), fcFewSets.sh, true⟩) else if k = 57 then some (.sc ⟨t92, t3, fcOnes.sh, true⟩) else none
theorem Psi_k15_ok : PsiOk Try.prog noU Psi_k15 := by
  intro k c h
  unfold Psi_k15 at h
  split at h
  · cases h; subst_vars; exact ⟨spec_k56, fun _ _ => M.det_det⟩
  split at h
  · cases h; subst_vars; exact ⟨spec_k57, fun _ _ => M.det_det⟩
  cases h
def ann_k15 : Ann := (.seq .leaf (.seq .leaf (.seq (.seq .leaf (.cond (.seq .leaf .leaf) .leaf)) (.seq .leaf .leaf))))
theorem l_k15 (x) : funI noU (tabT tab) noPhi Psi_k15 Try.f15 b_k15 ann_k15 t26 (.prod t3 t33) x = S_parts_Fewest fcFewSets.sh fcOnes.sh x := by kernel_rfl
theorem spec_k15 : FnSpec Try.prog 15 t26 (.prod t3 t33) fcPFewest.sh :=
  fn_ok mixOk tabOk noU_ok noPhi_ok Psi_k15_ok Try.func15 b_k15_ok (by kernel_rfl) fun x => M.le_trans (M.le_of_eq (l_k15 x)) (sPFewest x)
noncomputable def b_k16 : Code := Try.f16.body.getD .skip
theorem b_k16_ok : Try.f16.body = some b_k16 := by kernel_rfl
noncomputable def Psi_k16 (k : Nat) : Option KC := if k = 56 then some (.sc ⟨t26, (.prod t88 t33), fcFewSets.sh, true⟩) else if k = 58 then some (.sc ⟨t92, t36, fcList.sh, true⟩) else none
theorem Psi_k16_ok : PsiOk Try.prog noU Psi_k16 := by
  intro k c h
  unfold Psi_k16 at h
  split at h
  · cases h; subst_vars; exact ⟨spec_k56, fun _ _ => M.det_det⟩
  split at h
  · cases h; subst_vars; exact ⟨spec_k58, fun _ _ => M.det_det⟩
  cases h
def ann_k16 : Ann := (.seq .leaf (.seq .leaf (.seq (.seq .leaf (.cond (.seq .leaf .leaf) .leaf)) (.seq .leaf (.join ⟨[(6, .val t92)], []⟩ (.seq .leaf (.block (.loop ⟨[(6, .val t92), (20, .val t88), (21, .val t3), (22, .val t3)], []⟩ (.seq .leaf (.seq (.cond .leaf .leaf) (.seq (.block (.seq .leaf .leaf)) .leaf)))))) (.seq .leaf .leaf))))))
theorem l_k16 (x) : funI noU (tabT tab) noPhi Psi_k16 Try.f16 b_k16 ann_k16 t26 (.prod t36 t33) x = S_parts_Needed fcFewSets.sh fcList.sh x := by kernel_rfl
theorem spec_k16 : FnSpec Try.prog 16 t26 (.prod t36 t33) fcPNeeded.sh :=
  fn_ok mixOk tabOk noU_ok noPhi_ok Psi_k16_ok Try.func16 b_k16_ok (by kernel_rfl) fun x => M.le_trans (M.le_of_eq (l_k16 x)) (sPNeeded x)
noncomputable def b_k70 : Code := Try.f70.body.getD .skip
theorem b_k70_ok : Try.f70.body = some b_k70 := by kernel_rfl
noncomputable def Psi_k70 (k : Nat) : Option KC := if k = 105 then some (.sc ⟨(.prod t26 (.prod t3 (.prod t3 (.prod t3 t3)))), t4, fcFitsAt.sh, true⟩) else if k = 106 then some (.sc ⟨(.prod t3 t3), t3, fcIs.sh, true⟩) else none
theorem Psi_k70_ok : PsiOk Try.prog noU Psi_k70 := by
  intro k c h
  unfold Psi_k70 at h
  split at h
  · cases h; subst_vars; exact ⟨spec_k105, fun _ _ => M.det_det⟩
  split at h
  · cases h; subst_vars; exact ⟨spec_k106, fun _ _ => M.det_det⟩
  cases h
def ann_k70 : Ann := (.seq .leaf (.seq .leaf (.join ⟨[(0, .val t105), (1, .val t3), (9, .val t3)], []⟩ (.seq .leaf (.block (.loop ⟨[(0, .val t105), (1, .val t3), (2, .val t3), (3, .val t3), (9, .val t3), (18, .val t36), (19, .val t3), (20, .val t3)], []⟩ (.seq .leaf (.seq (.cond .leaf .leaf) (.join ⟨[(0, .val t105), (1, .val t3), (2, .val t3), (3, .val t3), (9, .val t3), (18, .val t36), (19, .val t3), (20, .val t3)], []⟩ (.block (.seq .leaf (.seq .leaf (.cond .leaf .leaf)))) .leaf)))))) (.seq .leaf .leaf))))
theorem l_k70 (x) : funI noU (tabT tab) noPhi Psi_k70 Try.f70 b_k70 ann_k70 (.prod t105 (.prod t3 (.prod t3 t3))) t3 x = S_parts_shop_fits fcFitsAt.sh fcIs.sh x := by kernel_rfl
theorem spec_k70 : FnSpec Try.prog 70 (.prod t105 (.prod t3 (.prod t3 t3))) t3 fcShopFits.sh :=
  fn_ok mixOk tabOk noU_ok noPhi_ok Psi_k70_ok Try.func70 b_k70_ok (by kernel_rfl) fun x => M.le_trans (M.le_of_eq (l_k70 x)) (sShopFits x)
noncomputable def b_k87 : Code := Try.f87.body.getD .skip
theorem b_k87_ok : Try.f87.body = some b_k87 := by kernel_rfl
noncomputable def Psi_k87 (k : Nat) : Option KC := if k = 79 then some (.sc ⟨(.prod t3 (.prod t3 t3)), t4, fcWithin.sh, true⟩) else none
theorem Psi_k87_ok : PsiOk Try.prog noU Psi_k87 := by
  intro k c h
  unfold Psi_k87 at h
  split at h
  · cases h; subst_vars; exact ⟨spec_k79, fun _ _ => M.det_det⟩
  cases h
def ann_k87 : Ann := (.seq .leaf (.seq .leaf .leaf))
theorem l_k87 (x) : funI noU (tabT tab) noPhi Psi_k87 Try.f87 b_k87 ann_k87 t3 t4 x = S_parts_begin_c1 fcWithin.sh x := by kernel_rfl
theorem spec_k87 : FnSpec Try.prog 87 t3 t4 fcBegin1.sh :=
  fn_ok mixOk tabOk noU_ok noPhi_ok Psi_k87_ok Try.func87 b_k87_ok (by kernel_rfl) fun x => M.le_trans (M.le_of_eq (l_k87 x)) (sBegin1 x)
noncomputable def b_k125 : Code := Try.f125.body.getD .skip
theorem b_k125_ok : Try.f125.body = some b_k125 := by kernel_rfl
noncomputable def Psi_k125 (k : Nat) : Option KC := none
theorem Psi_k125_ok : PsiOk Try.prog noU Psi_k125 := by
  intro k c h
  unfold Psi_k125 at h
  cases h
def ann_k125 : Ann := (.seq .leaf (.join ⟨[], []⟩ (.seq .leaf (.block (.loop ⟨[(0, .val t42), (1, .val t133), (7, .val t3), (8, .val t3)], []⟩ (.seq .leaf (.seq (.cond .leaf .leaf) (.seq (.block (.seq .leaf (.seq .leaf (.cond (.seq .leaf .leaf) .leaf)))) .leaf)))))) (.seq .leaf .leaf)))
theorem l_k125 (x) : funI noU (tabT tab) noPhi Psi_k125 Try.f125 b_k125 ann_k125 (.prod t42 t133) t3 x = S_slices_IndexFunc_api_Job_api_Job  x := by kernel_rfl
theorem spec_k125 : FnSpec Try.prog 125 (.prod t42 t133) t3 (fcIndexFunc t46).sh :=
  fn_ok mixOk tabOk noU_ok noPhi_ok Psi_k125_ok Try.func125 b_k125_ok (by kernel_rfl) fun x => M.le_trans (M.le_of_eq (l_k125 x)) (sIndexFunc t46 x)
noncomputable def b_k112 : Code := Try.f112.body.getD .skip
theorem b_k112_ok : Try.f112.body = some b_k112 := by kernel_rfl
noncomputable def Psi_k112 (k : Nat) : Option KC := if k = 125 then some (.sc ⟨(.prod t42 t133), t3, (fcIndexFunc t46).sh, true⟩) else none
theorem Psi_k112_ok : PsiOk Try.prog noU Psi_k112 := by
  intro k c h
  unfold Psi_k112 at h
  split at h
  · cases h; subst_vars; exact ⟨spec_k125, fun _ _ => M.det_det⟩
  cases h
def ann_k112 : Ann := (.seq .leaf (.seq .leaf .leaf))
theorem l_k112 (x) : funI noU (tabT tab) noPhi Psi_k112 Try.f112 b_k112 ann_k112 (.prod t42 t133) t4 x = S_slices_ContainsFunc_api_Job_api_Job (fcIndexFunc t46).sh x := by kernel_rfl
theorem spec_k112 : FnSpec Try.prog 112 (.prod t42 t133) t4 (fcContainsFunc t46).sh :=
  fn_ok mixOk tabOk noU_ok noPhi_ok Psi_k112_ok Try.func112 b_k112_ok (by kernel_rfl) fun x => M.le_trans (M.le_of_eq (l_k112 x)) (sContainsFunc t46 x)
noncomputable def b_k113 : Code := Try.f113.body.getD .skip
theorem b_k113_ok : Try.f113.body = some b_k113 := by kernel_rfl
noncomputable def Psi_k113 (k : Nat) : Option KC := none
theorem Psi_k113_ok : PsiOk Try.prog noU Psi_k113 := by
  intro k c h
  unfold Psi_k113 at h
  cases h
def ann_k113 : Ann := (.seq .leaf (.seq .leaf .leaf))
theorem l_k113 (x) : codeI noU (tabT tab) noPhi Psi_k113 ann_k113 b_k113 (capsSt 1 (parSt (.prod t46 (.ptr t133)) x)) (retI (tabT tab) Try.f113.results.toList t4) = S_parts_all_api_Job__c1  x := by kernel_rfl
theorem spec_k113 : FnSpec Try.prog 113 (.prod t46 (.ptr t133)) t4 (fcAllC1 t46).sh :=
  fnC_ok (n := 1) mixOk tabOk noU_ok noPhi_ok Psi_k113_ok Try.func113 b_k113_ok (by kernel_rfl) fun x => M.le_req (fun h => by obtain ⟨f, hf, _⟩ := h; exact caps_pre ⟨trivial, isSome_of hf⟩) (M.le_trans (M.le_of_eq (l_k113 x)) (sAllC1 t46 x))
noncomputable def b_k88 : Code := Try.f88.body.getD .skip
theorem b_k88_ok : Try.f88.body = some b_k88 := by kernel_rfl
noncomputable def U_k88 : FnTab := ⟨fun k => none, fun k => if k = 113 then some ⟨[t46], [t133], t4, (fcAllC1 t46).sh⟩ else none⟩
theorem U_k88_ok : FnTabOk Try.prog U_k88 where
  fnv := by
    intro k v h
    simp only [U_k88] at h
    cases h
  clv := by
    intro k v h
    simp only [U_k88] at h
    split at h
    · cases h; subst_vars; exact ⟨rfl, spec_k113⟩
    cases h
noncomputable def Psi_k88 (k : Nat) : Option KC := if k = 112 then some (.sc ⟨(.prod t42 t133), t4, (fcContainsFunc t46).sh, true⟩) else none
theorem Psi_k88_ok : PsiOk Try.prog U_k88 Psi_k88 := by
  intro k c h
  unfold Psi_k88 at h
  split at h
  · cases h; subst_vars; exact ⟨spec_k112, fun _ _ => M.det_det⟩
  cases h
def ann_k88 : Ann := (.seq .leaf (.seq .leaf .leaf))
theorem l_k88 (x) : funI U_k88 (tabT tab) noPhi Psi_k88 Try.f88 b_k88 ann_k88 (.prod t42 t133) t4 x = S_parts_all_api_Job (fcContainsFunc t46).sh (fcAllC1 t46).sh x := by kernel_rfl
theorem spec_k88 : FnSpec Try.prog 88 (.prod t42 t133) t4 (fcAllF t46).sh :=
  fn_ok mixOk tabOk U_k88_ok noPhi_ok Psi_k88_ok Try.func88 b_k88_ok (by kernel_rfl) fun x => M.le_trans (M.le_of_eq (l_k88 x)) (sAllF t46 x)
noncomputable def b_k89 : Code := Try.f89.body.getD .skip
theorem b_k89_ok : Try.f89.body = some b_k89 := by kernel_rfl
noncomputable def Psi_k89 (k : Nat) : Option KC := if k = 69 then some (.sc ⟨(.prod t26 (.prod t3 t3)), t4, fcIsSlotOf.sh, true⟩) else none
theorem Psi_k89_ok : PsiOk Try.prog noU Psi_k89 := by
  intro k c h
  unfold Psi_k89 at h
  split at h
  · cases h; subst_vars; exact ⟨spec_k69, fun _ _ => M.det_det⟩
  cases h
def ann_k89 : Ann := (.seq .leaf (.seq .leaf .leaf))
theorem l_k89 (x) : codeI noU (tabT tab) noPhi Psi_k89 ann_k89 b_k89 (capsSt 1 (parSt (.prod t46 (.ptr t26)) x)) (retI (tabT tab) Try.f89.results.toList t4) = S_parts_begin_c2 fcIsSlotOf.sh x := by kernel_rfl
theorem spec_k89 : FnSpec Try.prog 89 (.prod t46 (.ptr t26)) t4 fcBegin2.sh :=
  fnC_ok (n := 1) mixOk tabOk noU_ok noPhi_ok Psi_k89_ok Try.func89 b_k89_ok (by kernel_rfl) fun x => M.le_req (fun h => by obtain ⟨f, hf, _⟩ := h; exact caps_pre ⟨trivial, isSome_of hf⟩) (M.le_trans (M.le_of_eq (l_k89 x)) (sBegin2 x))
noncomputable def b_k127 : Code := Try.f127.body.getD .skip
theorem b_k127_ok : Try.f127.body = some b_k127 := by kernel_rfl
noncomputable def Psi_k127 (k : Nat) : Option KC := none
theorem Psi_k127_ok : PsiOk Try.prog noU Psi_k127 := by
  intro k c h
  unfold Psi_k127 at h
  cases h
def ann_k127 : Ann := (.seq .leaf (.seq .leaf (.seq .leaf (.seq .leaf (.seq .leaf (.seq .leaf (.seq .leaf (.seq .leaf (.seq .leaf (.seq .leaf (.seq .leaf (.seq .leaf .leaf))))))))))))
theorem l_k127 (x) : funI noU (tabT tab) noPhi Psi_k127 Try.f127 b_k127 ann_k127 (.prod t131 t131) (.prod t131 t131) x = S_math_bits_Mul64  x := by kernel_rfl
theorem spec_k127 : FnSpec Try.prog 127 (.prod t131 t131) (.prod t131 t131) fcMul.sh :=
  fn_ok mixOk tabOk noU_ok noPhi_ok Psi_k127_ok Try.func127 b_k127_ok (by kernel_rfl) fun x => M.le_trans (M.le_of_eq (l_k127 x)) (sMul64 x)
noncomputable def b_k114 : Code := Try.f114.body.getD .skip
theorem b_k114_ok : Try.f114.body = some b_k114 := by kernel_rfl
noncomputable def Psi_k114 (k : Nat) : Option KC := if k = 127 then some (.sc ⟨(.prod t131 t131), (.prod t131 t131), fcMul.sh, true⟩) else none
theorem Psi_k114_ok : PsiOk Try.prog noU Psi_k114 := by
  intro k c h
  unfold Psi_k114 at h
  split at h
  · cases h; subst_vars; exact ⟨spec_k127, fun _ _ => M.det_det⟩
  cases h
def ann_k114 : Ann := (.seq .leaf (.seq (.cond (.seq .leaf (.seq .leaf .leaf)) .leaf) (.seq .leaf (.seq .leaf .leaf))))
theorem l_k114 (x) : funI noU (tabT tab) noPhi Psi_k114 Try.f114 b_k114 ann_k114 (.prod t92 t92) (.prod t92 t92) x = S_math_bits_Mul (fun _ => M.fail) fcMul.sh x := by kernel_rfl
theorem spec_k114 : FnSpec Try.prog 114 (.prod t92 t92) (.prod t92 t92) fcMul.sh :=
  fn_ok mixOk tabOk noU_ok noPhi_ok Psi_k114_ok Try.func114 b_k114_ok (by kernel_rfl) fun x => M.le_trans (M.le_of_eq (l_k114 x)) (sMul (fun _ => M.fail) x)
noncomputable def b_krepeat : Code := Try.f90.body.getD .skip
theorem b_krepeat_ok : Try.f90.body = some b_krepeat := by kernel_rfl
noncomputable def U_k60 : FnTab := ⟨fun k => if k = 87 then some ⟨t3, t4, fcBegin1.sh⟩ else none, fun k => if k = 89 then some ⟨[t46], [t26], t4, fcBegin2.sh⟩ else none⟩
noncomputable def Psi_krepeat (k : Nat) : Option KC := if k = 114 then some (.sc ⟨(.prod t92 t92), (.prod t92 t92), fcMul.sh, true⟩) else none
theorem Psi_krepeat_ok : PsiOk Try.prog U_k60 Psi_krepeat := by
  intro k c h
  unfold Psi_krepeat at h
  split at h
  · cases h; subst_vars; exact ⟨spec_k114, fun _ _ => M.det_det⟩
  cases h
noncomputable def ioc_repeat : IOC := ⟨⟨[(0, .val t36), (1, .val t3)], []⟩, ⟨[(0, .own 30)], [(30, .arr t3)]⟩, [none], 2, shRepeat⟩
def ann_krepeat : Ann := (.seq .leaf (.join ⟨[(0, .val t36), (1, .val t3)], []⟩ (.seq .leaf (.cond .leaf .leaf)) (.seq .leaf (.join ⟨[(0, .val t36), (6, .val t92)], []⟩ (.seq .leaf (.cond .leaf .leaf)) (.seq .leaf (.seq .leaf (.join ⟨[(7, .own 30)], [(30, .arr t3)]⟩ (.block (.loop ⟨[(7, .own 30), (8, .val t3)], [(30, .arr t3)]⟩ (.seq (.seq .leaf (.cond .leaf .leaf)) (.block .leaf)))) (.seq .leaf .leaf))))))))
theorem l_krepeat (x) : funIO U_k60 (tabT tab) noPhi Psi_krepeat Try.f90 b_krepeat ann_krepeat ⟨[(0, .val t36), (1, .val t3)], []⟩ ⟨[(0, .own 30)], [(30, .arr t3)]⟩ [none] x = S_slices_Repeat fcMul.sh x := by kernel_rfl
theorem io_repeat : IoSpec Try.prog U_k60 90 ioc_repeat :=
  fnIO_ok mixOk tabOk noPhi_ok Psi_krepeat_ok Try.func90 b_krepeat_ok (by kernel_rfl) fun x => M.le_trans (M.le_of_eq (l_krepeat x)) (sRepeat x)
noncomputable def b_kholdersIO : Code := Try.f61.body.getD .skip
theorem b_kholdersIO_ok : Try.f61.body = some b_kholdersIO := by kernel_rfl
noncomputable def Psi_kholdersIO (k : Nat) : Option KC := none
theorem Psi_kholdersIO_ok : PsiOk Try.prog U_k60 Psi_kholdersIO := by
  intro k c h
  unfold Psi_kholdersIO at h
  cases h
noncomputable def ioc_holdersIO : IOC := ⟨⟨[(0, .loc 100000 0), (1, .val t3)], [(100000, .cells t125 [.val t108, .val t36, .own 100001]), (100001, .arr t3)]⟩, ⟨[(0, .own 5)], [(5, .arr t3), (100000, .cells t125 [.val t108, .val t36, .own 100001]), (100001, .arr t3)]⟩, [none], 2, shHoldersIO⟩
def ann_kholdersIO : Ann := (.seq .leaf (.seq .leaf (.join ⟨[(5, .own 5)], [(5, .arr t3), (100000, .cells t125 [.val t108, .val t36, .own 100001]), (100001, .arr t3)]⟩ (.seq .leaf (.block (.loop ⟨[(1, .val t3), (5, .own 5), (11, .own 100001), (12, .val t3), (13, .val t3)], [(5, .arr t3), (100000, .cells t125 [.val t108, .val t36, .own 100001]), (100001, .arr t3)]⟩ (.seq .leaf (.seq (.cond .leaf .leaf) (.join ⟨[(1, .val t3), (5, .own 5), (11, .own 100001), (12, .val t3), (13, .val t3)], [(5, .arr t3), (100000, .cells t125 [.val t108, .val t36, .own 100001]), (100001, .arr t3)]⟩ (.block (.seq .leaf (.seq .leaf (.cond .leaf .leaf)))) .leaf)))))) (.seq .leaf .leaf))))
theorem l_kholdersIO (x) : funIO U_k60 (tabT tab) noPhi Psi_kholdersIO Try.f61 b_kholdersIO ann_kholdersIO ⟨[(0, .loc 100000 0), (1, .val t3)], [(100000, .cells t125 [.val t108, .val t36, .own 100001]), (100001, .arr t3)]⟩ ⟨[(0, .own 5)], [(5, .arr t3), (100000, .cells t125 [.val t108, .val t36, .own 100001]), (100001, .arr t3)]⟩ [none] x = S_parts_task_holdersIO  x := by kernel_rfl
theorem io_holdersIO : IoSpec Try.prog U_k60 61 ioc_holdersIO :=
  fnIO_ok mixOk tabOk noPhi_ok Psi_kholdersIO_ok Try.func61 b_kholdersIO_ok (by kernel_rfl) fun x => M.le_trans (M.le_of_eq (l_kholdersIO x)) (sHoldersIO x)
noncomputable def b_kgive : Code := Try.f91.body.getD .skip
theorem b_kgive_ok : Try.f91.body = some b_kgive := by kernel_rfl
noncomputable def ioc_give (f : Nat) : IOC := ⟨⟨[(0, .loc 100000 0), (1, .val t3), (2, .mapl 100002)], [(100000, .cells t125 [.val t108, .val t36, .own 100001]), (100001, .arr t3), (100002, .mp t3 t3)]⟩, ⟨[(0, .val t4)], [(100000, .cells t125 [.val t108, .val t36, .own 100001]), (100001, .arr t3), (100002, .mp t3 t3)]⟩, [none], 3, shGive f⟩
noncomputable def Psi_kgive (f : Nat) (k : Nat) : Option KC := if k = 61 then some (.io ioc_holdersIO) else if k = 91 then some (.io (ioc_give f)) else none
theorem Psi_kgive_ok (f : Nat) (ih : IoSpec Try.prog U_k60 91 (ioc_give f)) : PsiOk Try.prog U_k60 (Psi_kgive f) := by
  intro k c h
  unfold Psi_kgive at h
  split at h
  · cases h; subst_vars; exact io_holdersIO
  split at h
  · cases h; subst_vars; exact ih
  cases h
def ann_kgive : Ann := (.seq .leaf (.join ⟨[], [(100000, .cells t125 [.val t108, .val t36, .own 100001]), (100001, .arr t3), (100002, .mp t3 t3)]⟩ (.seq .leaf (.block (.loop ⟨[(0, .loc 100000 0), (1, .val t3), (2, .mapl 100002), (18, .val t36), (19, .val t3), (20, .val t3)], [(100000, .cells t125 [.val t108, .val t36, .own 100001]), (100001, .arr t3), (100002, .mp t3 t3)]⟩ (.seq .leaf (.seq (.cond .leaf .leaf) (.join ⟨[(0, .loc 100000 0), (1, .val t3), (2, .mapl 100002), (18, .val t36), (19, .val t3), (20, .val t3)], [(100000, .cells t125 [.val t108, .val t36, .own 100001]), (100001, .arr t3), (100002, .mp t3 t3)]⟩ (.block (.seq .leaf (.seq (.seq .leaf (.seq .leaf (.cond .leaf .leaf))) (.seq .leaf (.seq (.seq .leaf (.cond (.seq .leaf (.seq .leaf .leaf)) .leaf)) (.seq .leaf (.block (.loop ⟨[(0, .loc 100000 0), (1, .val t3), (2, .mapl 100002), (8, .val t3), (18, .val t36), (19, .val t3), (20, .val t3), (52, .own 50340), (53, .val t3), (54, .val t3)], [(50340, .arr t3), (100000, .cells t125 [.val t108, .val t36, .own 100001]), (100001, .arr t3), (100002, .mp t3 t3)]⟩ (.seq .leaf (.seq (.cond .leaf .leaf) (.seq (.block (.seq .leaf (.seq .leaf (.cond (.seq .leaf (.seq .leaf .leaf)) .leaf)))) .leaf))))))))))) .leaf)))))) (.seq .leaf .leaf)))
theorem l_kgive (f : Nat) (x) : funIO U_k60 (tabT tab) noPhi (Psi_kgive f) Try.f91 b_kgive ann_kgive ⟨[(0, .loc 100000 0), (1, .val t3), (2, .mapl 100002)], [(100000, .cells t125 [.val t108, .val t36, .own 100001]), (100001, .arr t3), (100002, .mp t3 t3)]⟩ ⟨[(0, .val t4)], [(100000, .cells t125 [.val t108, .val t36, .own 100001]), (100001, .arr t3), (100002, .mp t3 t3)]⟩ [none] x = S_parts_task_give shHoldersIO (shGive f) x := by kernel_rfl
theorem io_give : ∀ f, IoSpec Try.prog U_k60 91 (ioc_give f)
  | 0 => fnIO_ok mixOk tabOk noPhi_ok (Ψ := fun _ => none) (fun k c h => by cases h) (ann := ann_kgive) Try.func91 b_kgive_ok (by kernel_rfl) fun x hs => absurd hs (shGive_zero x)
  | f + 1 => fnIO_ok mixOk tabOk noPhi_ok (Psi_kgive_ok f (io_give f)) Try.func91 b_kgive_ok (by kernel_rfl) fun x => M.le_trans (M.le_of_eq (l_kgive f x)) (sGive f x)
noncomputable def b_k60 : Code := Try.f60.body.getD .skip
theorem b_k60_ok : Try.f60.body = some b_k60 := by kernel_rfl
theorem U_k60_ok : FnTabOk Try.prog U_k60 where
  fnv := by
    intro k v h
    simp only [U_k60] at h
    split at h
    · cases h; subst_vars; exact spec_k87
    cases h
  clv := by
    intro k v h
    simp only [U_k60] at h
    split at h
    · cases h; subst_vars; exact ⟨rfl, spec_k89⟩
    cases h
noncomputable def Psi_k60 (k : Nat) : Option KC := if k = 65 then some (.sc ⟨(.prod t26 t4), (.prod t105 t33), fcOpen.sh, true⟩) else if k = 70 then some (.sc ⟨(.prod t105 (.prod t3 (.prod t3 t3))), t3, fcShopFits.sh, true⟩) else if k = 77 then some (.sc ⟨(.prod t36 t119), t4, (fcAllF t3).sh, true⟩) else if k = 88 then some (.sc ⟨(.prod t42 t133), t4, (fcAllF t46).sh, true⟩) else if k = 90 then some (.io ioc_repeat) else if k = 91 then some (.io (ioc_give 11)) else none
theorem Psi_k60_ok : PsiOk Try.prog U_k60 Psi_k60 := by
  intro k c h
  unfold Psi_k60 at h
  split at h
  · cases h; subst_vars; exact ⟨spec_k65, fun _ _ => M.det_det⟩
  split at h
  · cases h; subst_vars; exact ⟨spec_k70, fun _ _ => M.det_det⟩
  split at h
  · cases h; subst_vars; exact ⟨spec_k77, fun _ _ => M.det_det⟩
  split at h
  · cases h; subst_vars; exact ⟨spec_k88, fun _ _ => M.det_det⟩
  split at h
  · cases h; subst_vars; exact io_repeat
  split at h
  · cases h; subst_vars; exact io_give 11
  cases h
def ann_k60 : Ann := (.seq .leaf (.seq .leaf (.seq .leaf (.seq (.seq .leaf (.cond (.seq .leaf .leaf) .leaf)) (.seq .leaf (.join ⟨[(2, .val t42), (11, .loc 52 0)], [(52, .cells t125 [.own 85, .val t36, .own 50500]), (85, .arr t36), (50500, .arr t3)]⟩ (.seq .leaf (.block (.loop ⟨[(2, .val t42), (3, .loc 3 0), (9, .val t105), (11, .loc 52 0), (53, .val t42), (54, .val t3), (55, .val t3)], [(3, .frzc t26), (52, .cells t125 [.own 85, .val t36, .own 50500]), (85, .arr t36), (50500, .arr t3)]⟩ (.seq .leaf (.seq (.cond .leaf .leaf) (.join ⟨[(2, .val t42), (3, .loc 3 0), (9, .val t105), (11, .loc 52 0), (53, .val t42), (54, .val t3), (55, .val t3)], [(3, .frzc t26), (52, .cells t125 [.own 85, .val t36, .own 50500]), (85, .arr t36), (50500, .arr t3)]⟩ (.block (.seq .leaf (.seq .leaf (.join ⟨[(2, .val t42), (3, .loc 3 0), (9, .val t105), (11, .loc 52 0), (14, .own 14), (53, .val t42), (54, .val t3), (55, .val t3)], [(3, .frzc t26), (14, .arr t3), (52, .cells t125 [.own 85, .val t36, .own 50500]), (85, .arr t36), (50500, .arr t3)]⟩ (.seq .leaf (.block (.loop ⟨[(2, .val t42), (3, .loc 3 0), (9, .val t105), (11, .loc 52 0), (13, .loc 13 0), (14, .own 14), (53, .val t42), (54, .val t3), (55, .val t3), (61, .val t3), (62, .val t3)], [(3, .frzc t26), (13, .whole t28), (14, .arr t3), (52, .cells t125 [.own 85, .val t36, .own 50500]), (85, .arr t36), (50500, .arr t3)]⟩ (.seq .leaf (.seq (.cond .leaf .leaf) (.join ⟨[(2, .val t42), (3, .loc 3 0), (9, .val t105), (11, .loc 52 0), (13, .loc 13 0), (14, .own 14), (53, .val t42), (54, .val t3), (55, .val t3), (61, .val t3), (62, .val t3)], [(3, .frzc t26), (13, .whole t28), (14, .arr t3), (52, .cells t125 [.own 85, .val t36, .own 50500]), (85, .arr t36), (50500, .arr t3)]⟩ (.block (.seq .leaf (.seq .leaf (.cond .leaf .leaf)))) .leaf)))))) .leaf)))) .leaf)))))) (.join ⟨[(11, .loc 52 0)], [(52, .cells t125 [.val t108, .val t36, .own 50500]), (50500, .arr t3)]⟩ (.seq .leaf (.block (.loop ⟨[(11, .loc 52 0), (90, .val t3), (91, .val t3)], [(52, .cells t125 [.val t108, .val t36, .own 50500]), (50500, .arr t3)]⟩ (.seq .leaf (.seq (.cond .leaf .leaf) (.seq (.block (.seq .leaf .leaf)) .leaf)))))) (.seq .leaf .leaf))))))))
theorem l_k60 (x) : funI U_k60 (tabT tab) noPhi Psi_k60 Try.f60 b_k60 ann_k60 (.prod t26 (.prod t36 t42)) (.prod t97 t33) x = S_parts_begin fcOpen.sh fcShopFits.sh (fcAllF t3).sh (fcAllF t46).sh shRepeat (shGive 11) fcBegin2.sh fcBegin1.sh x := by kernel_rfl
theorem spec_k60 : FnSpec Try.prog 60 (.prod t26 (.prod t36 t42)) (.prod t97 t33) fcBegin.sh :=
  fn_ok mixOk tabOk U_k60_ok noPhi_ok Psi_k60_ok Try.func60 b_k60_ok (by kernel_rfl) fun x => M.le_trans (M.le_of_eq (l_k60 x)) (sBegin x)
noncomputable def b_k61 : Code := Try.f61.body.getD .skip
theorem b_k61_ok : Try.f61.body = some b_k61 := by kernel_rfl
noncomputable def Psi_k61 (k : Nat) : Option KC := none
theorem Psi_k61_ok : PsiOk Try.prog noU Psi_k61 := by
  intro k c h
  unfold Psi_k61 at h
  cases h
def ann_k61 : Ann := (.seq .leaf (.seq .leaf (.join ⟨[(5, .own 5)], [(5, .arr t3)]⟩ (.seq .leaf (.block (.loop ⟨[(1, .val t3), (5, .own 5), (11, .val t36), (12, .val t3), (13, .val t3)], [(5, .arr t3)]⟩ (.seq .leaf (.seq (.cond .leaf .leaf) (.join ⟨[(1, .val t3), (5, .own 5), (11, .val t36), (12, .val t3), (13, .val t3)], [(5, .arr t3)]⟩ (.block (.seq .leaf (.seq .leaf (.cond .leaf .leaf)))) .leaf)))))) (.seq .leaf .leaf))))
theorem l_k61 (x) : funI noU (tabT tab) noPhi Psi_k61 Try.f61 b_k61 ann_k61 (.prod t97 t3) t36 x = S_parts_task_holders  x := by kernel_rfl
theorem spec_k61 : FnSpec Try.prog 61 (.prod t97 t3) t36 fcHolders.sh :=
  fn_ok mixOk tabOk noU_ok noPhi_ok Psi_k61_ok Try.func61 b_k61_ok (by kernel_rfl) fun x => M.le_trans (M.le_of_eq (l_k61 x)) (sHolders x)
noncomputable def b_k21 : Code := Try.f21.body.getD .skip
theorem b_k21_ok : Try.f21.body = some b_k21 := by kernel_rfl
noncomputable def Psi_k21 (k : Nat) : Option KC := if k = 60 then some (.sc ⟨(.prod t26 (.prod t36 t42)), (.prod t97 t33), fcBegin.sh, true⟩) else if k = 61 then some (.sc ⟨(.prod t97 t3), t36, fcHolders.sh, true⟩) else none
theorem Psi_k21_ok : PsiOk Try.prog noU Psi_k21 := by
  intro k c h
  unfold Psi_k21 at h
  split at h
  · cases h; subst_vars; exact ⟨spec_k60, fun _ _ => M.det_det⟩
  split at h
  · cases h; subst_vars; exact ⟨spec_k61, fun _ _ => M.det_det⟩
  cases h
def ann_k21 : Ann := (.seq .leaf (.seq .leaf (.seq (.seq .leaf (.cond (.seq .leaf .leaf) .leaf)) (.seq .leaf .leaf))))
theorem l_k21 (x) : funI noU (tabT tab) noPhi Psi_k21 Try.f21 b_k21 ann_k21 (.prod t26 (.prod t36 t42)) (.prod t3 t33) x = S_parts_Most fcBegin.sh fcHolders.sh x := by kernel_rfl
theorem spec_k21 : FnSpec Try.prog 21 (.prod t26 (.prod t36 t42)) (.prod t3 t33) fcPMost.sh :=
  fn_ok mixOk tabOk noU_ok noPhi_ok Psi_k21_ok Try.func21 b_k21_ok (by kernel_rfl) fun x => M.le_trans (M.le_of_eq (l_k21 x)) (sPMost x)
noncomputable def b_k27 : Code := Try.f27.body.getD .skip
theorem b_k27_ok : Try.f27.body = some b_k27 := by kernel_rfl
noncomputable def Psi_k27 (k : Nat) : Option KC := if k = 65 then some (.sc ⟨(.prod t26 t4), (.prod t105 t33), fcOpen.sh, true⟩) else if k = 66 then some (.sc ⟨(.prod t26 t3), t4, fcIsSpare.sh, true⟩) else none
theorem Psi_k27_ok : PsiOk Try.prog noU Psi_k27 := by
  intro k c h
  unfold Psi_k27 at h
  split at h
  · cases h; subst_vars; exact ⟨spec_k65, fun _ _ => M.det_det⟩
  split at h
  · cases h; subst_vars; exact ⟨spec_k66, fun _ _ => M.det_det⟩
  cases h
def ann_k27 : Ann := (.seq .leaf (.seq .leaf (.seq (.seq .leaf (.cond (.seq .leaf .leaf) .leaf)) (.seq .leaf (.seq .leaf .leaf)))))
theorem l_k27 (x) : funI noU (tabT tab) noPhi Psi_k27 Try.f27 b_k27 ann_k27 (.prod t26 t3) (.prod t28 t33) x = S_parts_Length fcOpen.sh fcIsSpare.sh x := by kernel_rfl
theorem spec_k27 : FnSpec Try.prog 27 (.prod t26 t3) (.prod t28 t33) fcLength.sh :=
  fn_ok mixOk tabOk noU_ok noPhi_ok Psi_k27_ok Try.func27 b_k27_ok (by kernel_rfl) fun x => M.le_trans (M.le_of_eq (l_k27 x)) (sPLength x)
end Go.Fer.Sk
namespace Go.Fer.Sk
open Go.Proofs
open M (Step)
set_option maxRecDepth 100000
set_option linter.unusedVariables false
set_option linter.unusedSimpArgs false
noncomputable def b_k23 : Code := Try.f23.body.getD .skip
theorem b_k23_ok : Try.f23.body = some b_k23 := by kernel_rfl
noncomputable def Psi_k23 (k : Nat) : Option KC := none
theorem Psi_k23_ok : PsiOk Try.prog noU Psi_k23 := by
  intro k c h
  unfold Psi_k23 at h
  cases h
def ann_k23 : Ann := (.seq .leaf (.seq (.seq .leaf (.cond (.seq .leaf .leaf) .leaf)) (.join ⟨[], []⟩ (.seq .leaf (.block (.loop ⟨[(0, .val t36), (1, .val t36), (5, .val t3)], []⟩ (.seq (.seq .leaf (.cond .leaf .leaf)) (.seq (.block (.seq .leaf (.cond (.seq .leaf .leaf) .leaf))) .leaf))))) (.seq .leaf .leaf))))
theorem l_k23 (x) : funI noU (tabT tab) noPhi Psi_k23 Try.f23 b_k23 ann_k23 (.prod t36 t36) t4 x = S_law07_sameInts  x := by kernel_rfl
theorem spec_k23 : FnSpec Try.prog 23 (.prod t36 t36) t4 fcSameInts.sh :=
  fn_ok mixOk tabOk noU_ok noPhi_ok Psi_k23_ok Try.func23 b_k23_ok (by kernel_rfl) fun x => M.le_trans (M.le_of_eq (l_k23 x)) (sSameInts x)
noncomputable def b_k54 : Code := Try.f54.body.getD .skip
theorem b_k54_ok : Try.f54.body = some b_k54 := by kernel_rfl
noncomputable def Psi_k54 (k : Nat) : Option KC := none
theorem Psi_k54_ok : PsiOk Try.prog noU Psi_k54 := by
  intro k c h
  unfold Psi_k54 at h
  cases h
def ann_k54 : Ann := (.seq .leaf (.seq .leaf .leaf))
theorem l_k54 (x) : funI noU (tabT tab) noPhi Psi_k54 Try.f54 b_k54 ann_k54 .unit t26 x = S_law07_Example  x := by kernel_rfl
theorem spec_k54 : FnSpec Try.prog 54 .unit t26 fcExample.sh :=
  fn_ok mixOk tabOk noU_ok noPhi_ok Psi_k54_ok Try.func54 b_k54_ok (by kernel_rfl) fun x => M.le_trans (M.le_of_eq (l_k54 x)) (sExample x)
noncomputable def b_k55 : Code := Try.f55.body.getD .skip
theorem b_k55_ok : Try.f55.body = some b_k55 := by kernel_rfl
noncomputable def Psi_k55 (k : Nat) : Option KC := none
theorem Psi_k55_ok : PsiOk Try.prog noU Psi_k55 := by
  intro k c h
  unfold Psi_k55 at h
  cases h
def ann_k55 : Ann := (.seq .leaf (.seq .leaf .leaf))
theorem l_k55 (x) : funI noU (tabT tab) noPhi Psi_k55 Try.f55 b_k55 ann_k55 .unit t42 x = S_law07_Jobs  x := by kernel_rfl
theorem spec_k55 : FnSpec Try.prog 55 .unit t42 fcJobs.sh :=
  fn_ok mixOk tabOk noU_ok noPhi_ok Psi_k55_ok Try.func55 b_k55_ok (by kernel_rfl) fun x => M.le_trans (M.le_of_eq (l_k55 x)) (sJobs x)
noncomputable def b_k14 : Code := Try.f14.body.getD .skip
theorem b_k14_ok : Try.f14.body = some b_k14 := by kernel_rfl
noncomputable def Psi_k14 (k : Nat) : Option KC := if k = 15 then some (.sc ⟨t26, (.prod t3 t33), fcPFewest.sh, true⟩) else if k = 16 then some (.sc ⟨t26, (.prod t36 t33), fcPNeeded.sh, true⟩) else if k = 21 then some (.sc ⟨(.prod t26 (.prod t36 t42)), (.prod t3 t33), fcPMost.sh, true⟩) else if k = 23 then some (.sc ⟨(.prod t36 t36), t4, fcSameInts.sh, true⟩) else if k = 27 then some (.sc ⟨(.prod t26 t3), (.prod t28 t33), fcLength.sh, true⟩) else if k = 54 then some (.sc ⟨.unit, t26, fcExample.sh, true⟩) else if k = 55 then some (.sc ⟨.unit, t42, fcJobs.sh, true⟩) else none
theorem Psi_k14_ok : PsiOk Try.prog noU Psi_k14 := by
  intro k c h
  unfold Psi_k14 at h
  split at h
  · cases h; subst_vars; exact ⟨spec_k15, fun _ _ => M.det_det⟩
  split at h
  · cases h; subst_vars; exact ⟨spec_k16, fun _ _ => M.det_det⟩
  split at h
  · cases h; subst_vars; exact ⟨spec_k21, fun _ _ => M.det_det⟩
  split at h
  · cases h; subst_vars; exact ⟨spec_k23, fun _ _ => M.det_det⟩
  split at h
  · cases h; subst_vars; exact ⟨spec_k27, fun _ _ => M.det_det⟩
  split at h
  · cases h; subst_vars; exact ⟨spec_k54, fun _ _ => M.det_det⟩
  split at h
  · cases h; subst_vars; exact ⟨spec_k55, fun _ _ => M.det_det⟩
  cases h
def ann_k14 : Ann := (.seq .leaf (.seq .leaf (.seq .leaf (.seq .leaf (.seq .leaf (.seq .leaf (.seq .leaf .leaf)))))))
theorem l_k14 (x) : funI noU (tabT tab) noPhi Psi_k14 Try.f14 b_k14 ann_k14 .unit t4 x = S_law07_works fcPFewest.sh fcPNeeded.sh fcPMost.sh fcSameInts.sh fcLength.sh fcExample.sh fcJobs.sh x := by kernel_rfl
theorem spec_k14 : FnSpec Try.prog 14 .unit t4 fcWorks.sh :=
  fn_ok mixOk tabOk noU_ok noPhi_ok Psi_k14_ok Try.func14 b_k14_ok (by kernel_rfl) fun x => M.le_trans (M.le_of_eq (l_k14 x)) (sWorks x)
noncomputable def b_k24 : Code := Try.f24.body.getD .skip
theorem b_k24_ok : Try.f24.body = some b_k24 := by kernel_rfl
noncomputable def Psi_k24 (k : Nat) : Option KC := if k = 26 then some (.sc ⟨t26, t33, fcCheck.sh, true⟩) else none
theorem Psi_k24_ok : PsiOk Try.prog noU Psi_k24 := by
  intro k c h
  unfold Psi_k24 at h
  split at h
  · cases h; subst_vars; exact ⟨spec_k26, fun _ _ => M.det_det⟩
  cases h
def ann_k24 : Ann := (.seq .leaf (.seq (.seq .leaf (.cond (.seq .leaf .leaf) .leaf)) (.join ⟨[(1, .loc 1 0)], [(1, .whole t26)]⟩ (.seq .leaf (.block (.loop ⟨[(1, .loc 1 0), (3, .val t3)], [(1, .whole t26)]⟩ (.seq (.seq .leaf (.cond .leaf .leaf)) (.join ⟨[(1, .loc 1 0), (3, .val t3)], [(1, .whole t26)]⟩ (.block (.seq (.seq .leaf (.cond (.seq .leaf .leaf) .leaf)) (.seq .leaf (.block (.loop ⟨[(1, .loc 1 0), (3, .val t3), (4, .val t3)], [(1, .whole t26)]⟩ (.seq (.seq .leaf (.cond .leaf .leaf)) (.seq (.block (.seq .leaf (.cond (.seq .leaf .leaf) .leaf))) .leaf))))))) .leaf))))) (.seq (.seq .leaf (.cond (.seq .leaf .leaf) .leaf)) (.join ⟨[(1, .loc 1 0)], [(1, .whole t26)]⟩ (.seq .leaf (.block (.loop ⟨[(1, .loc 1 0), (5, .val t3)], [(1, .whole t26)]⟩ (.seq (.seq .leaf (.cond .leaf .leaf)) (.seq (.block (.seq .leaf (.cond (.seq .leaf .leaf) .leaf))) .leaf))))) (.seq .leaf .leaf))))))
theorem l_k24 (x) : funI noU (tabT tab) noPhi Psi_k24 Try.f24 b_k24 ann_k24 t26 t4 x = S_law07_Far fcCheck.sh x := by kernel_rfl
theorem spec_k24 : FnSpec Try.prog 24 t26 t4 fcFar.sh :=
  fn_ok mixOk tabOk noU_ok noPhi_ok Psi_k24_ok Try.func24 b_k24_ok (by kernel_rfl) fun x => M.le_trans (M.le_of_eq (l_k24 x)) (sFar x)
noncomputable def b_k13 : Code := Try.f13.body.getD .skip
theorem b_k13_ok : Try.f13.body = some b_k13 := by kernel_rfl
noncomputable def Psi_k13 (k : Nat) : Option KC := if k = 24 then some (.sc ⟨t26, t4, fcFar.sh, true⟩) else if k = 53 then some (.sc ⟨t26, t33, fcKnown.sh, true⟩) else none
theorem Psi_k13_ok : PsiOk Try.prog noU Psi_k13 := by
  intro k c h
  unfold Psi_k13 at h
  split at h
  · cases h; subst_vars; exact ⟨spec_k24, fun _ _ => M.det_det⟩
  split at h
  · cases h; subst_vars; exact ⟨spec_k53, fun _ _ => M.det_det⟩
  cases h
def ann_k13 : Ann := (.seq .leaf (.seq .leaf .leaf))
theorem l_k13 (x) : funI noU (tabT tab) noPhi Psi_k13 Try.f13 b_k13 ann_k13 t26 t4 x = S_law07_ready fcFar.sh fcKnown.sh x := by kernel_rfl
theorem spec_k13 : FnSpec Try.prog 13 t26 t4 fcReady.sh :=
  fn_ok mixOk tabOk noU_ok noPhi_ok Psi_k13_ok Try.func13 b_k13_ok (by kernel_rfl) fun x => M.le_trans (M.le_of_eq (l_k13 x)) (sReady x)
end Go.Fer.Sk
namespace Go.Fer
open M (Step)
set_option linter.unusedVariables false
set_option linter.unusedSimpArgs false
theorem neededR_len {w : Wsh} : (neededR w).1.length ≤ w.1.length := by
  unfold neededR
  split
  · simp
  · rw [List.length_map]
    exact Nat.le_trans (List.length_filter_le _ _) (by simp)
end Go.Fer
namespace Go.Fer
open M (Step)
set_option linter.unusedVariables false
set_option linter.unusedSimpArgs false
theorem asc_unique : ∀ {a b : List Int}, a.Pairwise (· < ·) → b.Pairwise (· < ·) → (∀ x, x ∈ a ↔ x ∈ b) → a = b
  | [], [], _, _, _ => rfl
  | [], y :: b, _, _, h => by have := (h y).2 (by simp); cases this
  | x :: a, [], _, _, h => by have := (h x).1 (by simp); cases this
  | x :: a, y :: b, ha, hb, h => by
    rw [List.pairwise_cons] at ha hb
    have hxy : x = y := by
      have h1 := (h x).1 (by simp)
      have h2 := (h y).2 (by simp)
      rcases List.mem_cons.1 h1 with e | h1
      · exact e
      · rcases List.mem_cons.1 h2 with e | h2
        · exact e.symm
        · have := hb.1 x h1
          have := ha.1 y h2
          omega
    subst hxy
    rw [asc_unique ha.2 hb.2 fun z => ?_]
    constructor
    · intro hz
      have := ha.1 z hz
      rcases List.mem_cons.1 ((h z).1 (List.mem_cons_of_mem _ hz)) with e | h
      · omega
      · exact h
    · intro hz
      have := hb.1 z hz
      rcases List.mem_cons.1 ((h z).2 (List.mem_cons_of_mem _ hz)) with e | h
      · omega
      · exact h
end Go.Fer
namespace Go.Fer
open M (Step)
set_option linter.unusedVariables false
set_option linter.unusedSimpArgs false
theorem fitsAt_congr {v w : Wsh} {i n m k : Int} (h1 : spareAt v i = spareAt w i) (h2 : slotsOfV v m = slotsOfV w m) (h3 : v.2.2.1 = w.2.2.1) : fitsAt v i n m k = fitsAt w i n m k := by
  unfold fitsAt slotAt
  rw [h1, h2, h3]
theorem caseV_congr {v w : Wsh} {i m : Int} (h1 : spareAt v i = spareAt w i) (h2 : slotsOfV v m = slotsOfV w m) (h3 : v.2.2.1 = w.2.2.1) (h4 : lens v i = lens w i) : caseV v i m = caseV w i m := by
  unfold caseV
  rw [h4]
  congr 1
  funext own n
  congr 1
  unfold covV covN
  rw [h2]
  congr 2
  funext b k
  rw [fitsAt_congr h1 h2 h3]
end Go.Fer
namespace Go.Fer
open M (Step)
set_option linter.unusedVariables false
set_option linter.unusedSimpArgs false
abbrev fcIsTask : FC := ⟨tTaskIn, tB, taskP, fun x => isTaskV x.1 x.2.1 x.2.2⟩
theorem eIsTask (w : Wsh) (stock : List Int) (jobs : List (Int × Int)) (h : smallW w) (hs : stock.length < 2 ^ 63) (hj : jobs.length < 2 ^ 63) :
    S_ref07_IsTask fcIsSlotOf.sh fcWithin.sh (w, stock, jobs) = M.pure (isTaskV w stock jobs) := by
  unfold S_ref07_IsTask isTaskV
  simp only [ofNat_def]
  by_cases hl : stock.length = w.1.length
  · by_cases hn : jobs.length ≤ 10
    · have c1 : (decide ((stock.length : Int) ≠ (w.1.length : Int)) || decide ((jobs.length : Int) > 10)) = false := by
        have : ¬ ((jobs.length : Int) > 10) := by omega
        simp [hl, this]
      have d1 : decide (stock.length = w.1.length) = true := by simp [hl]
      have d2 : decide (jobs.length ≤ 10) = true := by simp [hn]
      simp only [c1, Bool.false_eq_true, if_false, d1, Bool.true_and, d2, Bool.and_true]
      rw [M.loop_listT stock (fun i (_ : Unit) => (stock, jobs, (i : Int), w, ())) (fun n u => if (!(decide (0 ≤ n) && decide (n ≤ 10))) = true then .done (.done false) else .next u) (fun _ => .next (jobs, w, ())) () ?_ ?_ ?_]
      · rw [foldS_anyN (q := fun n => decide (0 ≤ n) && decide (n ≤ 10)) _ _ (fun n => rfl)]
        cases (stock.all fun n => decide (0 ≤ n) && decide (n ≤ 10)) with
        | false => simp only [Bool.false_eq_true, if_false, M.bind_pure, M.go_done, Bool.false_and]
        | true =>
          simp only [if_true, M.bind_pure, M.go_next, Bool.true_and]
          rw [M.loop_listT jobs (fun i (_ : Unit) => (jobs, (i : Int), w, ())) (fun (j : Int × Int) u => if (!isSlotOfV w j.1 j.2) = true then .done (.done false) else .next u) (fun _ => .next ()) () ?_ ?_ ?_]
          · rw [foldS_anyN (q := fun j : Int × Int => isSlotOfV w j.1 j.2) _ _ (fun j => rfl)]
            cases (jobs.all fun j => isSlotOfV w j.1 j.2) with
            | false => simp only [Bool.false_eq_true, if_false, M.bind_pure, M.go_done]
            | true => simp only [if_true, M.bind_pure, M.go_next]
          · rfl
          · intro i hi u
            have hwi := wrap64 (n := (i : Int) + 1) (by omega) (by omega)
            simp only [ofNat_def, lt_len hi, if_true, in_len hi, M.req_True, getD_nat hi, FC.sh, M.safe_det, M.val_det, M.req_true h, M.bind_pure, add_def, hwi]
            exact fin_step (mk := fun _ : Unit => (jobs, (i : Int) + 1, w, ()))
          · intro u
            simp
      · rfl
      · intro i hi u
        have hwi := wrap64 (n := (i : Int) + 1) (by omega) (by omega)
        simp only [ofNat_def, lt_len hi, if_true, in_len hi, M.req_True, getD_nat hi, FC.sh, M.bind_det, M.bind_pure, add_def, hwi]
        exact fin_step (mk := fun _ : Unit => (stock, jobs, (i : Int) + 1, w, ()))
      · intro u
        simp
    · have c1 : (decide ((stock.length : Int) ≠ (w.1.length : Int)) || decide ((jobs.length : Int) > 10)) = true := by
        have : ((jobs.length : Int) > 10) := by omega
        simp [this]
      have d2 : decide (jobs.length ≤ 10) = false := by simp; omega
      simp only [c1, if_true, d2, Bool.and_false, Bool.false_and]
  · have c1 : (decide ((stock.length : Int) ≠ (w.1.length : Int)) || decide ((jobs.length : Int) > 10)) = true := by
      have : ¬ ((stock.length : Int) = (w.1.length : Int)) := by omega
      simp [this]
    have d1 : decide (stock.length = w.1.length) = false := by simp [hl]
    simp only [c1, if_true, d1, Bool.false_and]
theorem sIsTask (x) : M.le (S_ref07_IsTask fcIsSlotOf.sh fcWithin.sh x) (fcIsTask.sh x) := M.le_det fun h => eIsTask x.1 x.2.1 x.2.2 h.1 h.2.1 h.2.2
end Go.Fer
namespace Go.Fer
open M (Step)
set_option linter.unusedVariables false
set_option linter.unusedSimpArgs false
def mostL : List (List Int) → List Int → Int
  | [], _ => 0
  | j :: jobs, stock => j.foldl (fun n s => if decide (stock.getD s.toNat 0 > 0) = true then (if 1 + mostL jobs (stock.set s.toNat (stock.getD s.toNat 0 - 1)) > n then 1 + mostL jobs (stock.set s.toNat (stock.getD s.toNat 0 - 1)) else n) else n) (mostL jobs stock)
theorem foldl_bound {f : Int → Int → Int} {a b : Int} : ∀ (l : List Int) (n : Int), a ≤ n ∧ n ≤ b → (∀ n s, a ≤ n ∧ n ≤ b → a ≤ f n s ∧ f n s ≤ b) → a ≤ l.foldl f n ∧ l.foldl f n ≤ b
  | [], n, h, _ => h
  | x :: l, n, h, hf => foldl_bound l _ (hf n x h) hf
theorem mostL_bound : ∀ (jobs : List (List Int)) (stock : List Int), 0 ≤ mostL jobs stock ∧ mostL jobs stock ≤ (jobs.length : Int)
  | [], _ => by simp [mostL]
  | j :: jobs, stock => by
    unfold mostL
    refine foldl_bound j _ ?_ fun n s h => ?_
    · have := mostL_bound jobs stock
      simp only [List.length_cons]
      omega
    · have := mostL_bound jobs (stock.set s.toNat (stock.getD s.toNat 0 - 1))
      simp only [List.length_cons] at h ⊢
      split
      · split <;> omega
      · exact h
def mostRR (w : Wsh) (stock : List Int) (jobs : List (Int × Int)) : Int × Int := if knownV w (isTaskV w stock jobs) ≠ 0 then (0, knownV w (isTaskV w stock jobs)) else (mostL (taskFit w jobs) stock, 0)
end Go.Fer
namespace Go.Fer
open M (Step)
set_option linter.unusedVariables false
set_option linter.unusedSimpArgs false
theorem range_getD {α : Type} (l : List α) (d : α) : (List.range l.length).map (fun j => l.getD j d) = l := by
  refine List.ext_getElem (by simp) fun i h1 h2 => ?_
  simp [List.getD_eq_getElem?_getD, List.getElem?_eq_getElem h2]
theorem countP_getD {α : Type} (p : α → Bool) (l : List α) (d : α) : (List.range l.length).countP (fun j => p (l.getD j d)) = l.countP p := by
  have := congrArg (List.countP p) (range_getD l d)
  rw [List.countP_map] at this
  exact this
theorem holdV_count (work : List Int) (s : Int) : (holdV work s).length = (List.range work.length).countP fun j => decide (work.getD j 0 = s) := by
  unfold holdV
  rw [List.length_map, List.countP_eq_length_filter]
theorem holdV_count' (work : List Int) (s : Int) : (holdV work s).length = work.countP fun x => decide (x = s) := by
  rw [holdV_count, countP_getD (fun x => decide (x = s))]
theorem countP_lt' {α : Type} {p q : α → Bool} : ∀ {l : List α}, (∀ x ∈ l, p x = true → q x = true) → ∀ {y : α}, q y = true → p y = false → y ∈ l → l.countP p < l.countP q
  | [], _, _, _, _, hm => by cases hm
  | x :: l, h, y, hy, hn, hm => by
    have hle : l.countP p ≤ l.countP q := List.countP_mono_left fun z hz => h z (List.mem_cons_of_mem _ hz)
    rw [List.countP_cons, List.countP_cons]
    rcases List.mem_cons.1 hm with e | e
    · subst e
      rw [hn, hy]
      simp
      omega
    · have := countP_lt' (fun z hz => h z (List.mem_cons_of_mem _ hz)) hy hn e
      have hx := h x (by simp)
      by_cases hp : p x = true
      · rw [hp, hx hp]; omega
      · simp only [hp]
        simp
        omega
theorem countP_le1 {p q : Nat → Bool} {s : Nat} (h : ∀ x, x ≠ s → p x = true → q x = true) : ∀ (l : List Nat), l.Nodup → l.countP p ≤ l.countP q + 1
  | [], _ => by simp
  | x :: l, hn => by
    rw [List.nodup_cons] at hn
    rw [List.countP_cons, List.countP_cons]
    by_cases e : x = s
    · subst e
      have : l.countP p ≤ l.countP q := List.countP_mono_left fun y hy => h y fun e => hn.1 (e ▸ hy)
      split <;> omega
    · have := countP_le1 h l hn.2
      have hx := h x e
      by_cases hp : p x = true
      · rw [hp, hx hp]; omega
      · simp only [hp]
        simp
        omega
theorem getD_set' {l : List Int} {j i : Nat} {s : Int} (hj : j < l.length) : (l.set j s).getD i 0 = if i = j then s else l.getD i 0 := by
  rw [List.getD_eq_getElem?_getD, List.getD_eq_getElem?_getD, List.getElem?_set]
  by_cases e : j = i
  · subst e; simp [hj]
  · rw [if_neg e, if_neg fun h : i = j => e h.symm]
abbrev fitOf (fit : List (List Int)) (j : Int) : List Int := fit.getD j.toNat []
def FullS (stock work : List Int) (s : Int) : Prop := stock.getD s.toNat 0 ≤ ((holdV work s).length : Int)
def ClosedJ (fit : List (List Int)) (stock work : List Int) (C : Int → Prop) : Prop := ∀ j, C j → ∀ s ∈ fitOf fit j, FullS stock work s ∧ ∀ h ∈ holdV work s, C h
def ValidW (n : Nat) (stock work : List Int) : Prop := ∀ s, 0 ≤ s → s < (n : Int) → ((holdV work s).length : Int) ≤ stock.getD s.toNat 0
def NewFull (fit : List (List Int)) (stock work : List Int) (m m' : List (Int × Int)) : Prop := ∀ s, mval m s = 0 → 1 ≤ mval m' s → FullS stock work s ∧ ∀ h ∈ holdV work s, ∀ s' ∈ fitOf fit h, 1 ≤ mval m' s'
def Moved (fit : List (List Int)) (J : Nat) (st : GSt) (work : List Int) : Prop := ∀ i : Nat, i < J → work.getD i 0 = st.1.getD i 0 ∨ (mval st.2 (work.getD i 0) = 0 ∧ work.getD i 0 ∈ fitOf fit (i : Int))
def Apart (fit : List (List Int)) (J : Nat) (C : Int → Prop) (w0 w1 : List Int) : Prop := ∀ i : Nat, i < J → w1.getD i 0 ≠ w0.getD i 0 → ¬ C (i : Int) ∧ ∀ c, C c → w1.getD i 0 ∉ fitOf fit c
structure GR (n J : Nat) (fit : List (List Int)) (stock : List Int) (j : Int) (st : GSt) (r : Bool × GSt) : Prop where
  no : r.1 = false → r.2.1 = st.1 ∧ (∀ s ∈ fitOf fit j, 1 ≤ mval r.2.2 s) ∧ NewFull fit stock st.1 st.2 r.2.2
  yes : r.1 = true → Moved fit J st r.2.1 ∧ (mval st.2 (r.2.1.getD j.toNat 0) = 0 ∧ r.2.1.getD j.toNat 0 ∈ fitOf fit j) ∧ ValidW n stock r.2.1
  cl : ∀ C, ClosedJ fit stock st.1 C → (C j → r.1 = false) ∧ (r.1 = true → Apart fit J C st.1 r.2.1)
  kept : r.1 = true → ∀ i : Nat, i < J → st.1.getD i 0 = -1 → i ≠ j.toNat → r.2.1.getD i 0 = -1
structure GO (n J : Nat) (fit : List (List Int)) (stock : List Int) (h : List Int) (st : GSt) (r : Bool × GSt) : Prop where
  no : r.1 = false → r.2.1 = st.1 ∧ (∀ j ∈ h, ∀ s ∈ fitOf fit j, 1 ≤ mval r.2.2 s) ∧ NewFull fit stock st.1 st.2 r.2.2
  yes : r.1 = true → Moved fit J st r.2.1 ∧ (∃ j ∈ h, mval st.2 (r.2.1.getD j.toNat 0) = 0) ∧ ValidW n stock r.2.1
  cl : ∀ C, ClosedJ fit stock st.1 C → ((∀ j ∈ h, C j) → r.1 = false) ∧ (r.1 = true → Apart fit J C st.1 r.2.1)
  kept : r.1 = true → ∀ i : Nat, i < J → st.1.getD i 0 = -1 → r.2.1.getD i 0 = -1
def RecR (n J : Nat) (fit : List (List Int)) (stock : List Int) (f : Nat) (rec : Int → GSt → Bool × GSt) : Prop :=
  ∀ j st, 0 ≤ j → j < (J : Int) → GD n J f st → ValidW n stock st.1 → GR n J fit stock j st (rec j st)
theorem NewFull_trans {fit : List (List Int)} {stock work : List Int} {m0 m1 m2 : List (Int × Int)} (hm : ∀ k, 0 ≤ mval m1 k) (h12 : ∀ k, mval m1 k ≤ mval m2 k) (h1 : NewFull fit stock work m0 m1) (h2 : NewFull fit stock work m1 m2) : NewFull fit stock work m0 m2 := by
  intro s h0 h3
  by_cases e : 1 ≤ mval m1 s
  · obtain ⟨a, b⟩ := h1 s h0 e
    exact ⟨a, fun h hh s' hs' => Int.le_trans (b h hh s' hs') (h12 s')⟩
  · have := hm s
    exact h2 s (by omega) h3
theorem NewFull_refl {fit : List (List Int)} {stock work : List Int} {m : List (Int × Int)} : NewFull fit stock work m m := fun s h1 h2 => by omega
theorem giveO_GR {n J f : Nat} {fit : List (List Int)} {stock : List Int} {rec : Int → GSt → Bool × GSt} (hok : RecOk n J f rec) (hrec : RecR n J fit stock f rec) {st : GSt} (h1 : OD n J f st) (hv : ValidW n stock st.1)
    (h : List Int) (hl : h.length ≤ 10) (hj : ∀ j ∈ h, 0 ≤ j ∧ j < (J : Int)) (hne : ∀ j ∈ h, st.1.getD j.toNat 0 ≠ -1) : GO n J fit stock h st (giveO rec h st) := by
  unfold giveO
  refine foldS_inv (fun i st' => OI n J st i st' ∧ st'.1 = st.1 ∧ (∀ k (hk : k < h.length), k < i → ∀ s ∈ fitOf fit h[k], 1 ≤ mval st'.2 s) ∧ NewFull fit stock st.1 st.2 st'.2)
    (fun r : Bool × GSt => GO n J fit stock h st r) h st ⟨OI_zero h1.1, rfl, fun k _ hk => by omega, NewFull_refl⟩ (fun i hi b hb => ?_) fun b hb => ?_
  · obtain ⟨hoi, hw, hask, hnf⟩ := hb
    have hm := hj h[i] (List.getElem_mem hi)
    have hgd := OI_GD h1 hoi (by omega)
    have hp := hok h[i] b hm.1 hm.2 hgd
    have hr := hrec h[i] b hm.1 hm.2 hgd (by rw [hw]; exact hv)
    have hoi' := OI_succ hoi hp
    have hnn : ∀ k, 0 ≤ mval b.2 k := fun k => (hgd.2.1 k).1
    have hst : ∀ k, 0 ≤ mval st.2 k := fun k => (h1.2.1 k).1
    unfold oStep
    by_cases hc : (rec h[i] b).1 = true
    · simp only [hc, if_true]
      obtain ⟨hmv, hself, hval⟩ := hr.yes hc
      refine ⟨fun h => (by cases h), fun _ => ⟨fun k hk => ?_, ⟨h[i], List.getElem_mem hi, ?_⟩, hval⟩, fun C hC => ⟨fun hall => ?_, fun _ => ?_⟩, fun _ k hk hu => ?_⟩
      · rcases hmv k hk with e | ⟨e1, e2⟩
        · left; rw [e, hw]
        · right
          refine ⟨?_, e2⟩
          have a := (hoi.2 ((rec h[i] b).2.1.getD k 0)).1
          have d := hst ((rec h[i] b).2.1.getD k 0)
          show mval st.2 ((rec h[i] b).2.1.getD k 0) = 0
          omega
      · have a := (hoi.2 ((rec h[i] b).2.1.getD h[i].toNat 0)).1
        have d := hst ((rec h[i] b).2.1.getD h[i].toNat 0)
        have c := hself.1
        show mval st.2 ((rec h[i] b).2.1.getD h[i].toNat 0) = 0
        omega
      · have := (hr.cl C (by rw [hw]; exact hC)).1 (hall _ (List.getElem_mem hi))
        rw [hc] at this
        exact this
      · have := (hr.cl C (by rw [hw]; exact hC)).2 hc
        rw [hw] at this
        exact this
      · refine hr.kept hc k hk (by rw [hw]; exact hu) fun e => hne h[i] (List.getElem_mem hi) ?_
        rw [← e]; exact hu
    · simp only [hc]
      have hf : (rec h[i] b).1 = false := by simpa using hc
      obtain ⟨hw', hfit, hnf'⟩ := hr.no hf
      have hmono : ∀ k, mval b.2 k ≤ mval (rec h[i] b).2.2 k := fun k => (hp.2 k).1
      refine ⟨hoi', by rw [hw', hw], fun k hk hki s hs => ?_, ?_⟩
      · by_cases e : k = i
        · subst e; exact hfit s hs
        · exact Int.le_trans (hask k hk (by omega) s hs) (hmono s)
      · rw [hw] at hnf'
        exact NewFull_trans hnn hmono hnf hnf'
  · obtain ⟨hoi, hw, hask, hnf⟩ := hb
    refine ⟨fun _ => ⟨hw, fun j hjm s hs => ?_, hnf⟩, fun h => (by cases h), fun C hC => ⟨fun _ => rfl, fun h => (by cases h)⟩, fun h => (by cases h)⟩
    obtain ⟨k, hk, rfl⟩ := List.mem_iff_getElem.1 hjm
    exact hask k hk hk s hs
theorem hold_set_ne {work : List Int} {j : Nat} {s s' : Int} (hj : j < work.length) (h : s' ≠ s) : (holdV (work.set j s) s').length ≤ (holdV work s').length := by
  rw [holdV_count, holdV_count, List.length_set]
  refine List.countP_mono_left fun i _ hi => ?_
  simp only [decide_eq_true_eq, getD_set' hj] at hi ⊢
  split at hi
  · exact absurd hi.symm h
  · exact hi
theorem hold_set_eq {work : List Int} {j : Nat} {s : Int} (hj : j < work.length) : (holdV (work.set j s) s).length ≤ (holdV work s).length + 1 := by
  rw [holdV_count, holdV_count, List.length_set]
  refine countP_le1 (s := j) (fun i hij hi => ?_) _ List.nodup_range
  simp only [decide_eq_true_eq, getD_set' hj, if_neg hij] at hi ⊢
  exact hi
theorem giveL_GR {n J f : Nat} {fit : List (List Int)} {stock : List Int} {rec : Int → GSt → Bool × GSt} (hok : RecOk n J f rec) (hrec : RecR n J fit stock f rec) (hJ : J ≤ 10) {job : Int} (hj0 : 0 ≤ job) (hjJ : job < (J : Int))
    (hl : (fitOf fit job).Nodup ∧ ∀ s ∈ fitOf fit job, 0 ≤ s ∧ s < (n : Int)) {st : GSt} (h0 : GD n J (f + 1) st) (hv : ValidW n stock st.1) : GR n J fit stock job st (giveL stock rec job (fitOf fit job) st) := by
  unfold giveL
  have hst : ∀ k, 0 ≤ mval st.2 k := fun k => (h0.2.1 k).1
  have hjl : job.toNat < st.1.length := by have := h0.1; omega
  refine foldS_inv (fun i b => LI n J st (fitOf fit job) i b ∧ b.1 = st.1 ∧ (∀ k (hk : k < (fitOf fit job).length), k < i → 1 ≤ mval b.2 (fitOf fit job)[k]) ∧ NewFull fit stock st.1 st.2 b.2)
    (fun r : Bool × GSt => GR n J fit stock job st r) (fitOf fit job) st ⟨⟨h0.1, fun k => ⟨Int.le_refl _, by simp⟩⟩, rfl, fun k _ hk => by omega, NewFull_refl⟩ (fun i hi b hb => ?_) fun b hb => ?_
  · obtain ⟨hli, hw, hask, hnf⟩ := hb
    have hs := hl.2 _ (List.getElem_mem hi)
    have hsm := List.getElem_mem hi
    have hnn : ∀ k, 0 ≤ mval b.2 k := fun k => (LI_small h0 hli k).1
    have hmo : ∀ k, mval st.2 k ≤ mval b.2 k := fun k => (hli.2 k).1
    revert hs hsm
    generalize hse : (fitOf fit job)[i] = s
    intro hs hsm
    unfold gStep
    by_cases h1 : mval b.2 s + 1 > 1
    · simp only [h1, decide_true, if_true]
      have hmono : ∀ k, mval b.2 k ≤ mval (msetI b.2 s (mval b.2 s + 1)) k := fun k => by
        rw [mval_mset]; split
        · rename_i e; rw [e]; omega
        · exact Int.le_refl _
      refine ⟨by have := LI_skip hl.1 hi h0 hli (by rw [hse]; exact h1); rw [hse] at this; exact this, hw, fun k hk hki => ?_, ?_⟩
      · by_cases e : k = i
        · subst e
          rw [hse]
          have := hmono s
          show 1 ≤ mval (msetI b.2 s (mval b.2 s + 1)) s
          omega
        · exact Int.le_trans (hask k hk (by omega)) (hmono _)
      · refine NewFull_trans hnn hmono hnf fun s0 e0 e1 => ?_
        rw [mval_mset] at e1
        split at e1
        · rename_i e; rw [e] at e0; omega
        · omega
    · have hz : mval b.2 s = 0 := by have := hnn s; omega
      have hz0 : mval st.2 s = 0 := by have := hst s; have := hmo s; omega
      obtain ⟨hod, hoi⟩ := LI_mark hl.1 hi (by rw [hse]; exact hs) h0 hli (by rw [hse]; exact h1)
      rw [hse] at hod hoi
      simp only [h1, decide_false, Bool.false_eq_true, if_false]
      by_cases h2 : ((holdV b.1 s).length : Int) < stock.getD s.toNat 0
      · simp only [h2, decide_true, if_true]
        rw [hw] at h2 ⊢
        have hnfull : ¬ FullS stock st.1 s := by unfold FullS; omega
        refine ⟨fun h => (by cases h), fun _ => ⟨fun k hk => ?_, ?_, fun s' hs0 hsn => ?_⟩, fun C hC => ⟨fun hcj => ?_, fun _ k hk hne => ?_⟩, fun _ k hk hu hkj => ?_⟩
        · show (st.1.set job.toNat s).getD k 0 = _ ∨ (mval st.2 ((st.1.set job.toNat s).getD k 0) = 0 ∧ (st.1.set job.toNat s).getD k 0 ∈ _)
          rw [getD_set' hjl]
          split
          · rename_i e
            right
            refine ⟨hz0, ?_⟩
            subst e
            have : fitOf fit ((job.toNat : Nat) : Int) = fitOf fit job := by unfold fitOf; rw [Int.toNat_natCast]
            rw [this]; exact hsm
          · exact .inl rfl
        · show mval st.2 ((st.1.set job.toNat s).getD job.toNat 0) = 0 ∧ (st.1.set job.toNat s).getD job.toNat 0 ∈ _
          rw [getD_set' hjl, if_pos rfl]
          exact ⟨hz0, hsm⟩
        · show ((holdV (st.1.set job.toNat s) s').length : Int) ≤ _
          by_cases e : s' = s
          · subst e
            have := hold_set_eq (s := s') hjl
            omega
          · have := hold_set_ne hjl e
            have := hv s' hs0 hsn
            omega
        · exact absurd (hC job hcj s hsm).1 hnfull
        · change (st.1.set job.toNat s).getD k 0 ≠ _ at hne
          show ¬ C (k : Int) ∧ ∀ c, C c → (st.1.set job.toNat s).getD k 0 ∉ _
          rw [getD_set' hjl] at hne ⊢
          split at hne
          · rename_i e
            rw [if_pos e]
            refine ⟨fun hck => ?_, fun c hc hsc => absurd (hC c hc s hsc).1 hnfull⟩
            have : (k : Int) = job := by omega
            rw [this] at hck
            exact absurd (hC job hck s hsm).1 hnfull
          · exact absurd rfl hne
        · show (st.1.set job.toNat s).getD k 0 = -1
          rw [getD_set' hjl, if_neg hkj]
          exact hu
      · simp only [h2, decide_false, Bool.false_eq_true, if_false]
        rw [hw] at h2 ⊢
        rw [hw] at hod hoi
        have hfull : FullS stock st.1 s := by unfold FullS; omega
        have hh1 : (holdV st.1 s).length ≤ 10 := by have := holdV_len st.1 s; have := h0.1; omega
        have hh2 : ∀ j ∈ holdV st.1 s, 0 ≤ j ∧ j < (J : Int) := fun j hj => by have := mem_holdV.1 hj; have := h0.1; omega
        have hgo := giveO_GR hok hrec hod hv (holdV st.1 s) hh1 hh2 (fun j hj e => by have := (mem_holdV.1 hj).2.2; change st.1.getD j.toNat 0 = -1 at e; omega)
        have hpo := giveO_post hok hod (holdV st.1 s) hh1 hh2
        revert hgo hpo
        generalize giveO rec (holdV st.1 s) (st.1, msetI b.2 s (mval b.2 s + 1)) = r
        intro hgo hpo
        have hm1 : ∀ k, mval st.2 k ≤ mval (msetI b.2 s (mval b.2 s + 1)) k ∧ mval b.2 k ≤ mval (msetI b.2 s (mval b.2 s + 1)) k := fun k => by
          have := hmo k
          rw [mval_mset]; split
          · rename_i e; subst e; omega
          · omega
        have hs1 : mval (msetI b.2 s (mval b.2 s + 1)) s = 1 := by rw [mval_mset, if_pos rfl, hz]; rfl
        have hm2 : ∀ k, mval (msetI b.2 s (mval b.2 s + 1)) k ≤ mval r.2.2 k := fun k => (hpo.2 k).1
        by_cases h5 : r.1 = true
        · simp only [h5, if_true]
          obtain ⟨hmv, ⟨o, hom, ho0⟩, hval⟩ := hgo.yes h5
          have hrl : r.2.1.length = J := hpo.1
          have hjr : job.toNat < r.2.1.length := by omega
          refine ⟨fun h => (by cases h), fun _ => ⟨fun k hk => ?_, ?_, fun s' hs0 hsn => ?_⟩, fun C hC => ⟨fun hcj => ?_, fun _ k hk hne => ?_⟩, fun _ k hk hu hkj => ?_⟩
          · show (r.2.1.set job.toNat s).getD k 0 = _ ∨ (mval st.2 ((r.2.1.set job.toNat s).getD k 0) = 0 ∧ (r.2.1.set job.toNat s).getD k 0 ∈ _)
            rw [getD_set' hjr]
            split
            · rename_i e
              right
              refine ⟨hz0, ?_⟩
              subst e
              have : fitOf fit ((job.toNat : Nat) : Int) = fitOf fit job := by unfold fitOf; rw [Int.toNat_natCast]
              rw [this]; exact hsm
            · rcases hmv k hk with e | ⟨e1, e2⟩
              · exact .inl e
              · right
                refine ⟨?_, e2⟩
                have a := (hm1 (r.2.1.getD k 0)).1
                have d := hst (r.2.1.getD k 0)
                change mval (msetI b.2 s (mval b.2 s + 1)) (r.2.1.getD k 0) = 0 at e1
                omega
          · show mval st.2 ((r.2.1.set job.toNat s).getD job.toNat 0) = 0 ∧ (r.2.1.set job.toNat s).getD job.toNat 0 ∈ _
            rw [getD_set' hjr, if_pos rfl]
            exact ⟨hz0, hsm⟩
          · show ((holdV (r.2.1.set job.toNat s) s').length : Int) ≤ _
            by_cases e : s' = s
            · subst e
              have h6 := hold_set_eq (s := s') hjr
              have h7 : (holdV r.2.1 s').length < (holdV st.1 s').length := by
                have ho := mem_holdV.1 hom
                rw [holdV_count, holdV_count, hrl, h0.1]
                refine countP_lt' (y := o.toNat) (fun k hk hkk => ?_) ?_ ?_ (List.mem_range.2 (by have := h0.1; omega))
                · simp only [decide_eq_true_eq] at hkk ⊢
                  rcases hmv k (List.mem_range.1 hk) with e | ⟨e1, e2⟩
                  · rw [← hkk, e]
                  · rw [hkk, hs1] at e1
                    cases e1
                · simp only [decide_eq_true_eq]; exact ho.2.2
                · simp only [decide_eq_false_iff_not]
                  intro e
                  rw [e, hs1] at ho0
                  cases ho0
              have := hv s' hs0 hsn
              omega
            · have := hold_set_ne hjr e
              have := hval s' hs0 hsn
              omega
          · have := (hgo.cl C hC).1 (hC job hcj s hsm).2
            rw [h5] at this; exact this
          · change (r.2.1.set job.toNat s).getD k 0 ≠ _ at hne
            show ¬ C (k : Int) ∧ ∀ c, C c → (r.2.1.set job.toNat s).getD k 0 ∉ _
            rw [getD_set' hjr] at hne ⊢
            have hno : ∀ c, C c → s ∉ fitOf fit c := fun c hc hsc => by
              have := (hgo.cl C hC).1 (hC c hc s hsc).2
              rw [h5] at this; cases this
            split at hne
            · rename_i e
              rw [if_pos e]
              refine ⟨fun hck => ?_, hno⟩
              have : (k : Int) = job := by omega
              rw [this] at hck
              exact hno job hck hsm
            · rename_i e
              rw [if_neg e]
              exact (hgo.cl C hC).2 h5 k hk hne
          · show (r.2.1.set job.toNat s).getD k 0 = -1
            rw [getD_set' hjr, if_neg hkj]
            exact hgo.kept h5 k hk hu
        · simp only [h5, Bool.false_eq_true, if_false]
          have hf : r.1 = false := by simpa using h5
          obtain ⟨hw', hfit, hnf'⟩ := hgo.no hf
          refine ⟨hoi _ hpo, hw', fun k hk hki => ?_, ?_⟩
          · by_cases e : k = i
            · subst e
              rw [hse]
              have := hm2 s
              omega
            · have a := hask k hk (by omega)
              have b := (hm1 (fitOf fit job)[k]).2
              have c := hm2 (fitOf fit job)[k]
              omega
          · intro s0 e0 e1
            by_cases e : s0 = s
            · subst e
              exact ⟨hfull, hfit⟩
            · by_cases e2 : 1 ≤ mval b.2 s0
              · obtain ⟨a, c⟩ := hnf s0 e0 e2
                refine ⟨a, fun h hh s' hs' => ?_⟩
                have d := c h hh s' hs'
                have e := (hm1 s').2
                have f := hm2 s'
                omega
              · refine hnf' s0 ?_ e1
                show mval (msetI b.2 s (mval b.2 s + 1)) s0 = 0
                rw [mval_mset, if_neg e]
                have := hnn s0
                omega
  · obtain ⟨hli, hw, hask, hnf⟩ := hb
    refine ⟨fun _ => ⟨hw, fun s hs => ?_, hnf⟩, fun h => (by cases h), fun C hC => ⟨fun _ => rfl, fun h => (by cases h)⟩, fun h => (by cases h)⟩
    obtain ⟨k, hk, rfl⟩ := List.mem_iff_getElem.1 hs
    exact hask k hk hk
theorem giveV_GR {n : Nat} {fit : List (List Int)} {stock : List Int} (hc : GC n fit stock) : ∀ f, RecR n fit.length fit stock f (giveV fit stock f)
  | 0 => fun j st _ _ h _ => absurd h.2.2 (by omega)
  | f + 1 => fun j st h0 h1 h hv => giveL_GR (giveV_post hc f) (giveV_GR hc f) hc.fl h0 h1 (fit_get hc j) h hv
end Go.Fer
namespace Go.Fer
open M (Step)
set_option linter.unusedVariables false
set_option linter.unusedSimpArgs false
def rsum : Nat → (Nat → Int) → Int
  | 0, _ => 0
  | n + 1, f => rsum n f + f n
theorem rsum_congr {f g : Nat → Int} : ∀ {n : Nat}, (∀ i, i < n → f i = g i) → rsum n f = rsum n g
  | 0, _ => rfl
  | n + 1, h => by
    show rsum n f + f n = rsum n g + g n
    rw [rsum_congr (n := n) fun i hi => h i (by omega), h n (by omega)]
theorem rsum_le {f g : Nat → Int} : ∀ {n : Nat}, (∀ i, i < n → f i ≤ g i) → rsum n f ≤ rsum n g
  | 0, _ => Int.le_refl _
  | n + 1, h => by
    show rsum n f + f n ≤ rsum n g + g n
    have a := rsum_le (n := n) fun i hi => h i (by omega)
    have b := h n (by omega)
    omega
theorem rsum_zero : ∀ {n : Nat}, rsum n (fun _ => 0) = 0
  | 0 => rfl
  | n + 1 => by show rsum n (fun _ => 0) + 0 = 0; rw [rsum_zero]; rfl
theorem rsum_nonneg {f : Nat → Int} {n : Nat} (h : ∀ i, i < n → 0 ≤ f i) : 0 ≤ rsum n f := by
  have := rsum_le (f := fun _ => 0) (g := f) (n := n) h
  rw [rsum_zero] at this
  exact this
theorem rsum_upd {f g : Nat → Int} {k : Nat} : ∀ {n : Nat}, k < n → (∀ i, i < n → i ≠ k → f i = g i) → rsum n f = rsum n g + (f k - g k)
  | 0, h, _ => by omega
  | n + 1, hk, h => by
    show rsum n f + f n = rsum n g + g n + _
    by_cases e : k = n
    · subst e
      rw [rsum_congr (g := g) fun i hi => h i (by omega) (by omega)]
      omega
    · rw [rsum_upd (n := n) (by omega) fun i hi => h i (by omega), h n (by omega) (fun x => e x.symm)]
      omega
theorem countP_split {α : Type} {p q r : α → Bool} : ∀ {l : List α}, (∀ x ∈ l, (if p x = true then 1 else 0) = (if q x = true then 1 else 0) + (if r x = true then 1 else (0 : Nat))) → l.countP p = l.countP q + l.countP r
  | [], _ => rfl
  | x :: l, h => by
    rw [List.countP_cons, List.countP_cons, List.countP_cons, countP_split (l := l) fun y hy => h y (List.mem_cons_of_mem _ hy)]
    have := h x (by simp)
    omega
theorem rsum_count (N : Nat → Bool) (work : List Int) : ∀ n, rsum n (fun i => if N i = true then ((work.countP fun x => decide (x = (i : Int)) : Nat) : Int) else 0) = ((work.countP fun x => decide (0 ≤ x) && decide (x < (n : Int)) && N x.toNat : Nat) : Int)
  | 0 => by
    symm
    show ((_ : Nat) : Int) = 0
    have : (work.countP fun x => decide (0 ≤ x) && decide (x < ((0 : Nat) : Int)) && N x.toNat) = 0 := by
      rw [List.countP_eq_zero]
      intro x _
      by_cases h : 0 ≤ x
      · have : ¬ x < 0 := by omega
        simp [this]
      · simp [h]
    rw [this]; rfl
  | n + 1 => by
    show rsum n _ + (if N n = true then ((work.countP fun x => decide (x = (n : Int)) : Nat) : Int) else 0) = _
    rw [rsum_count N work n]
    by_cases hN : N n = true
    · rw [if_pos hN]
      rw [countP_split (p := fun x => decide (0 ≤ x) && decide (x < ((n + 1 : Nat) : Int)) && N x.toNat) (q := fun x => decide (0 ≤ x) && decide (x < (n : Int)) && N x.toNat) (r := fun x => decide (x = (n : Int))) (l := work) fun x _ => ?_]
      · omega
      · by_cases e : x = (n : Int)
        · subst e
          have h1 : ¬ (n : Int) < (n : Int) := by omega
          have h2 : (n : Int) < ((n + 1 : Nat) : Int) := by omega
          have h3 : (0 : Int) ≤ (n : Int) := by omega
          simp only [h1, h2, h3, hN, Int.toNat_natCast, decide_true, decide_false, Bool.and_true, Bool.and_false, Bool.false_and]
          rfl
        · have h1 : decide (x < ((n + 1 : Nat) : Int)) = decide (x < (n : Int)) := by rw [decide_eq_decide]; omega
          simp only [e, h1, decide_false]
          simp
    · rw [if_neg hN, Int.add_zero]
      congr 1
      refine List.countP_congr fun x _ => ?_
      by_cases e : x = (n : Int)
      · subst e
        simp only [Int.toNat_natCast, hN]
        simp
      · have h1 : decide (x < ((n + 1 : Nat) : Int)) = decide (x < (n : Int)) := by rw [decide_eq_decide]; omega
        rw [h1]
theorem foldl_infl {f : Int → Int → Int} (h : ∀ n s, n ≤ f n s) : ∀ (l : List Int) (n : Int), n ≤ l.foldl f n
  | [], n => Int.le_refl _
  | x :: l, n => Int.le_trans (h n x) (foldl_infl h l _)
theorem foldl_ge {f : Int → Int → Int} (h : ∀ n s, n ≤ f n s) {v s : Int} (hv : ∀ n, v ≤ f n s) : ∀ {l : List Int} (n : Int), s ∈ l → v ≤ l.foldl f n
  | [], _, hs => by cases hs
  | x :: l, n, hs => by
    rcases List.mem_cons.1 hs with e | e
    · subst e; exact Int.le_trans (hv n) (foldl_infl h l _)
    · exact foldl_ge (l := l) h hv (f n x) e
theorem foldl_le {f : Int → Int → Int} {B : Int} : ∀ {l : List Int} {n : Int}, n ≤ B → (∀ n s, s ∈ l → n ≤ B → f n s ≤ B) → l.foldl f n ≤ B
  | [], n, h, _ => h
  | x :: l, n, h, hf => foldl_le (l := l) (hf n x (by simp) h) fun n s hs => hf n s (List.mem_cons_of_mem _ hs)
theorem mostL_ge0 (j : List Int) (jobs : List (List Int)) (stock : List Int) : mostL jobs stock ≤ mostL (j :: jobs) stock := by
  rw [mostL]
  refine foldl_infl (fun n s => ?_) j _
  split
  · split <;> omega
  · omega
theorem mostL_geS {j : List Int} (jobs : List (List Int)) {stock : List Int} {s : Int} (hs : s ∈ j) (h : stock.getD s.toNat 0 > 0) : 1 + mostL jobs (stock.set s.toNat (stock.getD s.toNat 0 - 1)) ≤ mostL (j :: jobs) stock := by
  rw [mostL]
  refine foldl_ge (fun n s => ?_) (fun n => ?_) _ hs
  · split
    · split <;> omega
    · omega
  · rw [if_pos (by simpa using h)]
    split <;> omega
theorem mostL_le {j : List Int} {jobs : List (List Int)} {stock : List Int} {B : Int} (h : mostL jobs stock ≤ B) (hs : ∀ s ∈ j, stock.getD s.toNat 0 > 0 → 1 + mostL jobs (stock.set s.toNat (stock.getD s.toNat 0 - 1)) ≤ B) : mostL (j :: jobs) stock ≤ B := by
  rw [mostL]
  refine foldl_le h fun n s hm hn => ?_
  split
  · rename_i hc
    have := hs s hm (by simpa using hc)
    split <;> omega
  · exact hn
theorem mostL_served : ∀ (fit : List (List Int)) (work stock : List Int), work.length = fit.length → (∀ i : Nat, i < fit.length → work.getD i 0 = -1 ∨ work.getD i 0 ∈ fit.getD i []) → (∀ l ∈ fit, ∀ s ∈ l, 0 ≤ s ∧ s < (stock.length : Int)) →
    (∀ s : Int, 0 ≤ s → s < (stock.length : Int) → ((work.countP fun x => decide (x = s) : Nat) : Int) ≤ stock.getD s.toNat 0) → ((work.countP fun x => !decide (x = -1) : Nat) : Int) ≤ mostL fit stock
  | [], work, stock, hl, _, _, _ => by
    have : work = [] := List.length_eq_zero_iff.1 hl
    subst this
    simp [mostL]
  | j :: fit, [], stock, hl, _, _, _ => by simp at hl
  | j :: fit, a :: work, stock, hl, hm, hf, hv => by
    have hl' : work.length = fit.length := by simpa using hl
    have hm' : ∀ i : Nat, i < fit.length → work.getD i 0 = -1 ∨ work.getD i 0 ∈ fit.getD i [] := fun i hi => by
      have := hm (i + 1) (by simp only [List.length_cons]; omega)
      simpa using this
    have h0 := hm 0 (by simp)
    change a = -1 ∨ a ∈ j at h0
    by_cases e : a = -1
    · subst e
      have ih := mostL_served fit work stock hl' hm' (fun l h => hf l (List.mem_cons_of_mem _ h)) fun s h1 h2 => by
        have := hv s h1 h2
        rw [List.countP_cons] at this
        omega
      rw [List.countP_cons]
      simp only [decide_true, Bool.not_true, Bool.false_eq_true, if_false, Nat.add_zero]
      exact Int.le_trans ih (mostL_ge0 _ _ _)
    · have ha : a ∈ j := h0.resolve_left e
      obtain ⟨a0, an⟩ := hf j (by simp) a ha
      have hva := hv a a0 an
      rw [List.countP_cons] at hva
      simp only [decide_true, if_true] at hva
      have hsl : a.toNat < stock.length := by omega
      have ih := mostL_served fit work (stock.set a.toNat (stock.getD a.toNat 0 - 1)) hl' hm' (fun l h => by rw [List.length_set]; exact hf l (List.mem_cons_of_mem _ h)) fun s h1 h2 => by
        rw [List.length_set] at h2
        rw [getD_set' hsl]
        split
        · rename_i e
          have : s = a := by omega
          subst this
          omega
        · rename_i e
          have hne : s ≠ a := fun x => e (by rw [x])
          have := hv s h1 h2
          rw [List.countP_cons, if_neg (by simpa using fun x => hne x.symm)] at this
          omega
      have := mostL_geS fit ha (stock := stock) (by omega)
      rw [List.countP_cons]
      simp only [e, decide_false, Bool.not_false, if_true]
      omega
def cutS (N : Nat → Bool) (stock : List Int) : Int := rsum stock.length fun i => if N i = true then stock.getD i 0 else 0
def outN (N : Nat → Bool) (fit : List (List Int)) : Nat := fit.countP fun l => !(l.all fun s => N s.toNat)
theorem mostL_cut (N : Nat → Bool) : ∀ (fit : List (List Int)) (stock : List Int), (∀ l ∈ fit, ∀ s ∈ l, 0 ≤ s ∧ s < (stock.length : Int)) → (∀ i, i < stock.length → 0 ≤ stock.getD i 0) → mostL fit stock ≤ cutS N stock + (outN N fit : Int)
  | [], stock, _, h0 => by
    have : 0 ≤ cutS N stock := rsum_nonneg fun i hi => by
      have := h0 i hi
      split <;> omega
    simp only [mostL, outN, List.countP_nil]
    omega
  | j :: fit, stock, hf, h0 => by
    have ih := mostL_cut N fit stock (fun l h => hf l (List.mem_cons_of_mem _ h)) h0
    have ho : outN N (j :: fit) = outN N fit + if (!(j.all fun s => N s.toNat)) = true then 1 else 0 := by unfold outN; rw [List.countP_cons]
    refine mostL_le (by rw [ho]; omega) fun s hs hp => ?_
    obtain ⟨s0, sn⟩ := hf j (by simp) s hs
    have hsl : s.toNat < stock.length := by omega
    have ih' := mostL_cut N fit (stock.set s.toNat (stock.getD s.toNat 0 - 1)) (fun l h => by rw [List.length_set]; exact hf l (List.mem_cons_of_mem _ h)) fun i hi => by
      rw [List.length_set] at hi
      rw [getD_set' hsl]
      have := h0 i hi
      split <;> omega
    have hc : cutS N (stock.set s.toNat (stock.getD s.toNat 0 - 1)) = cutS N stock + (if N s.toNat = true then -1 else 0) := by
      unfold cutS
      rw [List.length_set, rsum_upd (k := s.toNat) (g := fun i => if N i = true then stock.getD i 0 else 0) hsl fun i hi hne => by simp only [getD_set' hsl, if_neg hne]]
      simp only [getD_set' hsl, if_true]
      split <;> omega
    rw [hc] at ih'
    rw [ho]
    by_cases hN : N s.toNat = true
    · rw [if_pos hN] at ih'; omega
    · rw [if_neg hN] at ih'
      have : (!(j.all fun s => N s.toNat)) = true := by
        rw [Bool.not_eq_true', ← Bool.not_eq_true, List.all_eq_true]
        exact fun h => hN (h s hs)
      rw [if_pos this]
      omega
def nbr (fit : List (List Int)) (some : List Int) (i : Nat) : Bool := some.any fun k => (fitOf fit k).contains (i : Int)
def lacksV (fit : List (List Int)) (stock some : List Int) : Int := (some.length : Int) - cutS (nbr fit some) stock
def jobsOk (J : Nat) (some : List Int) : Prop := some.Pairwise (· < ·) ∧ ∀ k ∈ some, 0 ≤ k ∧ k < (J : Int)
theorem filt_asc (p : Nat → Bool) (n : Nat) : (((List.range n).filter p).map fun (i : Nat) => (i : Int)).Pairwise (· < ·) :=
  List.Pairwise.map _ (fun a b (h : a < b) => by omega) (List.pairwise_lt_range.filter p)
theorem mem_filt {p : Nat → Bool} {n : Nat} {x : Int} : x ∈ (((List.range n).filter p).map fun (i : Nat) => (i : Int)) ↔ 0 ≤ x ∧ x < (n : Int) ∧ p x.toNat = true := by
  simp only [List.mem_map, List.mem_filter, List.mem_range]
  constructor
  · rintro ⟨i, ⟨h1, h2⟩, rfl⟩; exact ⟨by omega, by omega, by simpa using h2⟩
  · rintro ⟨h1, h2, h3⟩; exact ⟨x.toNat, ⟨by omega, h3⟩, by omega⟩
theorem jobs_count {J : Nat} {some : List Int} (h : jobsOk J some) : some.length = (List.range J).countP fun (j : Nat) => some.contains (j : Int) := by
  have : some = ((List.range J).filter fun (j : Nat) => some.contains (j : Int)).map fun (i : Nat) => (i : Int) := by
    refine asc_unique h.1 (filt_asc _ _) fun x => ?_
    rw [mem_filt, List.contains_iff_mem]
    constructor
    · intro hx
      have := h.2 x hx
      exact ⟨this.1, this.2, by rw [Int.toNat_of_nonneg this.1]; exact hx⟩
    · rintro ⟨h1, h2, h3⟩
      rw [Int.toNat_of_nonneg h1] at h3
      exact h3
  have h2 := congrArg List.length this
  rw [List.length_map, ← List.countP_eq_length_filter] at h2
  exact h2
theorem nbr_of {fit : List (List Int)} {some : List Int} {k s : Int} (hk : k ∈ some) (hs : s ∈ fitOf fit k) (h0 : 0 ≤ s) : nbr fit some s.toNat = true := by
  unfold nbr
  rw [List.any_eq_true]
  exact ⟨k, hk, by rw [List.contains_iff_mem, Int.toNat_of_nonneg h0]; exact hs⟩
theorem lacks_out {fit : List (List Int)} {m : Nat} {some : List Int} (hf : ∀ l ∈ fit, ∀ s ∈ l, 0 ≤ s ∧ s < (m : Int)) (h : jobsOk fit.length some) : outN (nbr fit some) fit + some.length ≤ fit.length := by
  rw [jobs_count h]
  unfold outN
  have h3 := List.length_eq_countP_add_countP (l := fit) fun l => !(l.all fun s => nbr fit some s.toNat)
  have h4 : ((List.range fit.length).countP fun (j : Nat) => some.contains (j : Int)) ≤ fit.countP fun a => decide (¬ (!(a.all fun s => nbr fit some s.toNat)) = true) := by
    rw [← countP_getD (fun a => decide (¬ (!(a.all fun s => nbr fit some s.toNat)) = true)) fit []]
    refine List.countP_mono_left fun i hi hc => ?_
    rw [List.contains_iff_mem] at hc
    have : ((fit.getD i []).all fun s => nbr fit some s.toNat) = true := by
      rw [List.all_eq_true]
      intro s hs
      have hi := List.mem_range.1 hi
      have hm : fit.getD i [] ∈ fit := by rw [List.getD_eq_getElem?_getD, List.getElem?_eq_getElem hi]; exact List.getElem_mem hi
      exact nbr_of (k := (i : Int)) hc (by unfold fitOf; rw [Int.toNat_natCast]; exact hs) (hf _ hm s hs).1
    rw [this]; rfl
  omega
theorem lacks_le {fit : List (List Int)} {stock some : List Int} (hf : ∀ l ∈ fit, ∀ s ∈ l, 0 ≤ s ∧ s < (stock.length : Int)) (h0 : ∀ i, i < stock.length → 0 ≤ stock.getD i 0) (h : jobsOk fit.length some) : mostL fit stock ≤ (fit.length : Int) - lacksV fit stock some := by
  have h1 := mostL_cut (nbr fit some) fit stock hf h0
  have h2 := lacks_out hf h
  unfold lacksV
  omega
theorem lacks_eq {n : Nat} {fit : List (List Int)} {stock work some : List Int} (hf : ∀ l ∈ fit, ∀ s ∈ l, 0 ≤ s ∧ s < (stock.length : Int)) (hl : work.length = fit.length) (hs : stock.length = n) (hv : ValidW n stock work)
    (hm : ∀ i : Nat, i < fit.length → work.getD i 0 = -1 ∨ work.getD i 0 ∈ fitOf fit (i : Int)) (h : jobsOk fit.length some) (hu : ∀ i : Nat, i < fit.length → work.getD i 0 = -1 → (i : Int) ∈ some)
    (hc : ClosedJ fit stock work fun j => j ∈ some) : lacksV fit stock some = ((holdV work (-1)).length : Int) := by
  have hfit : ∀ k s, s ∈ fitOf fit k → 0 ≤ s ∧ s < (n : Int) := fun k s hks => by
    by_cases hk : k.toNat < fit.length
    · have hm : fitOf fit k ∈ fit := by unfold fitOf; rw [List.getD_eq_getElem?_getD, List.getElem?_eq_getElem hk]; exact List.getElem_mem hk
      rw [← hs]; exact hf _ hm s hks
    · unfold fitOf at hks
      rw [List.getD_eq_getElem?_getD, List.getElem?_eq_none (by omega)] at hks
      cases hks
  have h1 : cutS (nbr fit some) stock = rsum n fun i => if nbr fit some i = true then ((work.countP fun x => decide (x = (i : Int)) : Nat) : Int) else 0 := by
    unfold cutS
    rw [hs]
    refine rsum_congr fun i hi => ?_
    by_cases hN : nbr fit some i = true
    · rw [if_pos hN, if_pos hN, ← holdV_count']
      have hN' := hN
      unfold nbr at hN'
      rw [List.any_eq_true] at hN'
      obtain ⟨k, hk, hik⟩ := hN'
      rw [List.contains_iff_mem] at hik
      have a := (hc k hk _ hik).1
      have b := hv (i : Int) (by omega) (by omega)
      unfold FullS at a
      rw [Int.toNat_natCast] at a b
      omega
    · rw [if_neg hN, if_neg hN]
  unfold lacksV
  rw [h1, rsum_count, jobs_count h, holdV_count]
  rw [← countP_getD (fun x => decide (0 ≤ x) && decide (x < (n : Int)) && nbr fit some x.toNat) work 0, hl]
  rw [countP_split (p := fun (j : Nat) => some.contains (j : Int)) (q := fun j => decide (work.getD j 0 = -1)) (r := fun j => decide (0 ≤ work.getD j 0) && decide (work.getD j 0 < (n : Int)) && nbr fit some (work.getD j 0).toNat) (l := List.range fit.length) fun j hj => ?_]
  · omega
  · have hj := List.mem_range.1 hj
    by_cases e : work.getD j 0 = -1
    · have h2 : some.contains (j : Int) = true := by rw [List.contains_iff_mem]; exact hu j hj e
      rw [h2, e]
      simp
    · have hmj := (hm j hj).resolve_left e
      have hr := hfit _ _ hmj
      have h3 : some.contains (j : Int) = nbr fit some (work.getD j 0).toNat := by
        rw [Bool.eq_iff_iff, List.contains_iff_mem]
        constructor
        · intro hjs
          exact nbr_of hjs hmj hr.1
        · intro hN
          unfold nbr at hN
          rw [List.any_eq_true] at hN
          obtain ⟨k, hk, hik⟩ := hN
          rw [List.contains_iff_mem, Int.toNat_of_nonneg hr.1] at hik
          exact (hc k hk _ hik).2 _ (mem_holdV.2 ⟨by omega, by omega, by rw [Int.toNat_natCast]⟩)
      rw [h3]
      have e2 : decide (work.getD j 0 = -1) = false := decide_eq_false e
      have e3 : decide (0 ≤ work.getD j 0) = true := decide_eq_true hr.1
      have e4 : decide (work.getD j 0 < (n : Int)) = true := decide_eq_true hr.2
      rw [e2, e3, e4]
      simp
structure WInv (n : Nat) (fit : List (List Int)) (stock : List Int) (k : Nat) (work : List Int) : Prop where
  len : work.length = fit.length
  val : ValidW n stock work
  mem : ∀ i : Nat, i < fit.length → work.getD i 0 = -1 ∨ work.getD i 0 ∈ fitOf fit (i : Int)
  rest : ∀ i : Nat, k ≤ i → i < fit.length → work.getD i 0 = -1
  closed : ∃ C, ClosedJ fit stock work C ∧ (∀ c, C c → 0 ≤ c ∧ c < (k : Int)) ∧ ∀ i : Nat, i < k → work.getD i 0 = -1 → C (i : Int)
theorem winv_step {n : Nat} {fit : List (List Int)} {stock : List Int} (hc : GC n fit stock) {k : Nat} (hk : k < fit.length) {work : List Int} (h : WInv n fit stock k work) : WInv n fit stock (k + 1) (giveV fit stock 11 (k : Int) (work, [])).2.1 := by
  have hgd : GD n fit.length 11 (work, []) := GD_nil hc.nl h.len
  have hp := giveV_post hc 11 (k : Int) (work, []) (by omega) (by omega) hgd
  have hr := giveV_GR hc 11 (k : Int) (work, []) (by omega) (by omega) hgd h.val
  revert hp hr
  generalize giveV fit stock 11 (k : Int) (work, []) = r
  intro hp hr
  have hfit : ∀ j s, s ∈ fitOf fit j → 0 ≤ s ∧ s < (n : Int) := fun j s hs => (fit_get hc j).2 s hs
  obtain ⟨C, hC, hC1, hC2⟩ := h.closed
  have hrl : r.2.1.length = fit.length := hp.1
  by_cases hb : r.1 = true
  · obtain ⟨hmv, hself, hval⟩ := hr.yes hb
    have hap := (hr.cl C hC).2 hb
    have hsame : ∀ c, C c → ∀ s ∈ fitOf fit c, holdV r.2.1 s = holdV work s := fun c hcc s hs => by
      unfold holdV
      rw [hrl, h.len]
      congr 1
      refine List.filter_congr fun i hi => ?_
      rw [decide_eq_decide]
      have hi := List.mem_range.1 hi
      by_cases e : r.2.1.getD i 0 = work.getD i 0
      · rw [e]
      · obtain ⟨n1, n2⟩ := hap i hi e
        constructor
        · intro e2
          exact absurd (by rw [e2]; exact hs) (n2 c hcc)
        · intro e2
          refine absurd ((hC c hcc s hs).2 (i : Int) (mem_holdV.2 ⟨by omega, by rw [h.len]; omega, ?_⟩)) n1
          rw [Int.toNat_natCast]; exact e2
    refine ⟨hrl, hval, fun i hi => ?_, fun i hki hi => ?_, C, fun c hcc s hs => ?_, fun c hcc => by have := hC1 c hcc; omega, fun i hi hu => ?_⟩
    · rcases hmv i hi with e | ⟨e1, e2⟩
      · rw [e]; exact h.mem i hi
      · exact .inr e2
    · exact hr.kept hb i hi (h.rest i (by omega) hi) (by rw [Int.toNat_natCast]; omega)
    · have hh := hsame c hcc s hs
      have := hC c hcc s hs
      unfold FullS at this ⊢
      rw [hh]
      exact this
    · by_cases e : i = k
      · subst e
        have h1 := hself.2
        rw [Int.toNat_natCast, hu] at h1
        have := hfit _ _ h1
        omega
      · rcases hmv i (by omega) with e | ⟨e1, e2⟩
        · rw [e] at hu
          exact hC2 i (by omega) hu
        · rw [hu] at e2
          have := hfit _ _ e2
          omega
  · have hf : r.1 = false := by simpa using hb
    obtain ⟨hw, hask, hnf⟩ := hr.no hf
    change r.2.1 = work at hw
    rw [hw]
    have hnew : ∀ s, 1 ≤ mval r.2.2 s → FullS stock work s ∧ ∀ h ∈ holdV work s, ∀ s' ∈ fitOf fit h, 1 ≤ mval r.2.2 s' := fun s hs => hnf s rfl hs
    refine ⟨h.len, h.val, h.mem, fun i hki hi => h.rest i (by omega) hi, fun c => C c ∨ c = (k : Int) ∨ ∃ s, 0 ≤ s ∧ 1 ≤ mval r.2.2 s ∧ c ∈ holdV work s, fun c hcc s hs => ?_, fun c hcc => ?_, fun i hi hu => ?_⟩
    · have hmk : 1 ≤ mval r.2.2 s → FullS stock work s ∧ ∀ h ∈ holdV work s, C h ∨ h = (k : Int) ∨ ∃ s, 0 ≤ s ∧ 1 ≤ mval r.2.2 s ∧ h ∈ holdV work s := fun hm =>
        ⟨(hnew s hm).1, fun h hh => .inr (.inr ⟨s, (hfit c s hs).1, hm, hh⟩)⟩
      rcases hcc with e | e | ⟨s0, h00, h01, h02⟩
      · exact ⟨(hC c e s hs).1, fun h hh => .inl ((hC c e s hs).2 h hh)⟩
      · subst e
        exact hmk (hask s hs)
      · exact hmk ((hnew s0 h01).2 c h02 s hs)
    · rcases hcc with e | e | ⟨s0, h00, h01, h02⟩
      · have := hC1 c e; omega
      · omega
      · have hh := mem_holdV.1 h02
        refine ⟨hh.1, ?_⟩
        have hl := h.len
        by_cases e : c < ((k + 1 : Nat) : Int)
        · exact e
        · have := h.rest c.toNat (by omega) (by omega)
          omega
    · by_cases e : i = k
      · subst e; exact .inr (.inl rfl)
      · exact .inl (hC2 i (by omega) hu)
def workF (fit : List (List Int)) (stock : List Int) : List Int := (List.range fit.length).foldl (fun work (j : Nat) => (giveV fit stock 11 (j : Int) (work, [])).2.1) (List.replicate fit.length (-1))
theorem workV_F (w : Wsh) (stock : List Int) (jobs : List (Int × Int)) : workV w stock jobs = workF (taskFit w jobs) stock := by
  unfold workV workF
  have : (taskFit w jobs).length = jobs.length := by simp [taskFit]
  rw [this]
theorem getD_repl {J i : Nat} (h : i < J) : (List.replicate J (-1 : Int)).getD i 0 = -1 := by
  rw [List.getD_eq_getElem?_getD, List.getElem?_eq_getElem (by simpa using h)]
  simp
theorem workF_inv {n : Nat} {fit : List (List Int)} {stock : List Int} (hc : GC n fit stock) (h0 : ∀ i, i < stock.length → 0 ≤ stock.getD i 0) : WInv n fit stock fit.length (workF fit stock) := by
  unfold workF
  have key : ∀ k, k ≤ fit.length → WInv n fit stock k ((List.range k).foldl (fun work (j : Nat) => (giveV fit stock 11 (j : Int) (work, [])).2.1) (List.replicate fit.length (-1))) := by
    intro k
    induction k with
    | zero =>
      intro _
      refine ⟨by simp, fun s hs0 hsn => ?_, fun i hi => .inl (getD_repl hi), fun i _ hi => getD_repl hi, fun _ => False, fun _ h => h.elim, fun _ h => h.elim, fun i hi => by omega⟩
      show ((holdV (List.replicate fit.length (-1)) s).length : Int) ≤ _
      have : (holdV (List.replicate fit.length (-1)) s).length = 0 := by
        rw [holdV_count', List.countP_eq_zero]
        intro x hx
        rw [(List.mem_replicate.1 hx).2]
        have : ¬ (-1 : Int) = s := by omega
        simp [this]
      rw [this]
      have := hc.sl
      exact h0 s.toNat (by omega)
    | succ k ih =>
      intro hk
      rw [List.range_succ, List.foldl_append]
      exact winv_step hc (by omega) (ih (by omega))
  exact key _ (Nat.le_refl _)
open Classical in
theorem task_cut {n : Nat} {fit : List (List Int)} {stock work : List Int} (hc : GC n fit stock) (h0 : ∀ i, i < stock.length → 0 ≤ stock.getD i 0) (h : WInv n fit stock fit.length work) :
    mostL fit stock = (fit.length : Int) - ((holdV work (-1)).length : Int) ∧ ∃ some, jobsOk fit.length some ∧ lacksV fit stock some = ((holdV work (-1)).length : Int) := by
  have hf : ∀ l ∈ fit, ∀ s ∈ l, 0 ≤ s ∧ s < (stock.length : Int) := fun l hl s hs => by rw [hc.sl]; exact (hc.fits l hl).2 s hs
  have h1 := mostL_served fit work stock h.len (fun i hi => by have := h.mem i hi; unfold fitOf at this; rw [Int.toNat_natCast] at this; exact this) hf fun s hs0 hsn => by
    rw [← holdV_count']; exact h.val s hs0 (by rw [← hc.sl]; exact hsn)
  have h2 := List.length_eq_countP_add_countP (l := work) fun x => decide (x = -1)
  have h3 : (work.countP fun x => decide ¬ decide (x = (-1 : Int)) = true) = work.countP fun x => !decide (x = -1) := List.countP_congr fun x _ => by simp
  rw [h3, ← holdV_count', h.len] at h2
  obtain ⟨C, hC, hC1, hC2⟩ := h.closed
  have hmem : ∀ x, x ∈ (((List.range fit.length).filter fun (j : Nat) => decide (C (j : Int))).map fun (i : Nat) => (i : Int)) ↔ C x := fun x => by
    rw [mem_filt]
    constructor
    · rintro ⟨a, b, c⟩
      rw [Int.toNat_of_nonneg a] at c
      simpa using c
    · intro hx
      have := hC1 x hx
      exact ⟨this.1, this.2, by rw [Int.toNat_of_nonneg this.1]; simpa using hx⟩
  have hok : jobsOk fit.length (((List.range fit.length).filter fun (j : Nat) => decide (C (j : Int))).map fun (i : Nat) => (i : Int)) := ⟨filt_asc _ _, fun k hk => hC1 k ((hmem k).1 hk)⟩
  have h4 := lacks_eq hf h.len hc.sl h.val h.mem hok (fun i hi hu => (hmem _).2 (hC2 i hi hu)) fun j hj s hs => ⟨(hC j ((hmem j).1 hj) s hs).1, fun o ho => (hmem o).2 ((hC j ((hmem j).1 hj) s hs).2 o ho)⟩
  have h5 := lacks_le hf h0 hok
  exact ⟨by omega, _, hok, h4⟩
theorem most_work {n : Nat} {fit : List (List Int)} {stock : List Int} (hc : GC n fit stock) (h0 : ∀ i, i < stock.length → 0 ≤ stock.getD i 0) : mostL fit stock = (fit.length : Int) - ((holdV (workF fit stock) (-1)).length : Int) := (task_cut hc h0 (workF_inv hc h0)).1
theorem most_min {n : Nat} {fit : List (List Int)} {stock : List Int} (hc : GC n fit stock) (h0 : ∀ i, i < stock.length → 0 ≤ stock.getD i 0) : ∃ N, mostL fit stock = cutS N stock + (outN N fit : Int) := by
  have hf : ∀ l ∈ fit, ∀ s ∈ l, 0 ≤ s ∧ s < (stock.length : Int) := fun l hl s hs => by rw [hc.sl]; exact (hc.fits l hl).2 s hs
  obtain ⟨h1, some, hok, h2⟩ := task_cut hc h0 (workF_inv hc h0)
  refine ⟨nbr fit some, ?_⟩
  have h3 := mostL_cut (nbr fit some) fit stock hf h0
  have h4 : outN (nbr fit some) fit + some.length ≤ fit.length := lacks_out hf hok
  unfold lacksV at h2
  omega
end Go.Fer
namespace Go.Fer
open M (Step)
set_option linter.unusedVariables false
set_option linter.unusedSimpArgs false
theorem foldl_congr' {α β : Type} {f g : β → α → β} : ∀ {l : List α} {b : β}, (∀ b, ∀ x ∈ l, f b x = g b x) → l.foldl f b = l.foldl g b
  | [], _, _ => rfl
  | x :: l, b, h => by rw [List.foldl_cons, List.foldl_cons, h b x (by simp), foldl_congr' fun b y hy => h b y (List.mem_cons_of_mem _ hy)]
abbrev doneP (x : Wsh × List Int × List (Int × Int) × List Int) : Prop := goodW x.1 ∧ isTaskV x.1 x.2.1 x.2.2.1 = true ∧ x.2.2.2.length = x.2.2.1.length ∧ ValidW x.1.1.length x.2.1 x.2.2.2 ∧ ∀ i : Nat, i < x.2.2.1.length → x.2.2.2.getD i 0 = -1 ∨ x.2.2.2.getD i 0 ∈ fitOf (taskFit x.1 x.2.2.1) (i : Int)
end Go.Fer
namespace Go.Fer
open M (Step)
set_option linter.unusedVariables false
set_option linter.unusedSimpArgs false
inductive Reach (fit : List (List Int)) (work : List Int) : Int → Prop where
  | base {j : Int} : j ∈ holdV work (-1) → Reach fit work j
  | step {j s h : Int} : Reach fit work j → s ∈ fitOf fit j → h ∈ holdV work s → Reach fit work h
theorem reach_lt {fit : List (List Int)} {work : List Int} {j : Int} (h : Reach fit work j) : 0 ≤ j ∧ j < (work.length : Int) := by
  cases h with
  | base h => have := mem_holdV.1 h; omega
  | step _ _ h => have := mem_holdV.1 h; omega
open Classical in
noncomputable def reachL (fit : List (List Int)) (work : List Int) : List Int := ((List.range work.length).filter fun (j : Nat) => decide (Reach fit work (j : Int))).map fun (i : Nat) => (i : Int)
theorem mem_reachL {fit : List (List Int)} {work : List Int} {j : Int} : j ∈ reachL fit work ↔ Reach fit work j := by
  unfold reachL
  rw [mem_filt]
  constructor
  · rintro ⟨a, b, c⟩
    rw [Int.toNat_of_nonneg a] at c
    simpa using c
  · intro h
    have := reach_lt h
    exact ⟨this.1, this.2, by rw [Int.toNat_of_nonneg this.1]; simpa using h⟩
theorem reach_lacks {n : Nat} {fit : List (List Int)} {stock work : List Int} (hc : GC n fit stock) (h : WInv n fit stock fit.length work) :
    jobsOk fit.length (reachL fit work) ∧ lacksV fit stock (reachL fit work) = ((holdV work (-1)).length : Int) := by
  have hf : ∀ l ∈ fit, ∀ s ∈ l, 0 ≤ s ∧ s < (stock.length : Int) := fun l hl s hs => by rw [hc.sl]; exact (hc.fits l hl).2 s hs
  obtain ⟨C, hC, hC1, hC2⟩ := h.closed
  have hsub : ∀ j, Reach fit work j → C j := fun j hj => by
    induction hj with
    | base hb =>
      have := mem_holdV.1 hb
      have h1 := hC2 _ (by have := h.len; omega) this.2.2
      rw [Int.toNat_of_nonneg this.1] at h1
      exact h1
    | step _ hs hh ih => exact (hC _ ih _ hs).2 _ hh
  have hok : jobsOk fit.length (reachL fit work) := ⟨filt_asc _ _, fun k hk => by have := reach_lt (mem_reachL.1 hk); rw [h.len] at this; exact this⟩
  refine ⟨hok, lacks_eq hf h.len hc.sl h.val h.mem hok (fun i hi hu => mem_reachL.2 (.base (mem_holdV.2 ⟨by omega, by rw [h.len]; omega, by rw [Int.toNat_natCast]; exact hu⟩))) fun j hj s hs => ?_⟩
  have hr := mem_reachL.1 hj
  exact ⟨(hC _ (hsub _ hr) s hs).1, fun o ho => mem_reachL.2 (.step hr hs ho)⟩
noncomputable def shortV (w : Wsh) (stock : List Int) (jobs : List (Int × Int)) : List Int × Int :=
  if knownV w (isTaskV w stock jobs) ≠ 0 then ([], knownV w (isTaskV w stock jobs)) else (reachL (taskFit w jobs) (workV w stock jobs), 0)
end Go.Fer
namespace Go.Fer
open M (Step)
set_option linter.unusedVariables false
set_option linter.unusedSimpArgs false
theorem served_eq (work : List Int) : ((work.countP fun x => !decide (x = -1) : Nat) : Int) = (work.length : Int) - ((holdV work (-1)).length : Int) := by
  have h2 := List.length_eq_countP_add_countP (l := work) fun x => decide (x = -1)
  have h3 : (work.countP fun x => decide ¬ decide (x = (-1 : Int)) = true) = work.countP fun x => !decide (x = -1) := List.countP_congr fun x _ => by simp
  rw [h3, ← holdV_count'] at h2
  omega
structure TaskOk (w : Wsh) (stock : List Int) (jobs : List (Int × Int)) : Prop where
  good : goodW w
  it : isTaskV w stock jobs = true
  gc : GC w.1.length (taskFit w jobs) stock
  nn : ∀ i, i < stock.length → 0 ≤ stock.getD i 0
  mp : mostP w stock jobs = (mostL (taskFit w jobs) stock, 0)
  mr : mostRR w stock jobs = (mostL (taskFit w jobs) stock, 0)
  wp : workP w stock jobs = (workV w stock jobs, 0)
  sv : shortV w stock jobs = (reachL (taskFit w jobs) (workV w stock jobs), 0)
  dp : doneP (w, stock, jobs, workV w stock jobs)
  dn : (((workV w stock jobs).countP fun x => !decide (x = -1) : Nat) : Int) = mostL (taskFit w jobs) stock
  jo : jobsOk jobs.length (reachL (taskFit w jobs) (workV w stock jobs))
  jl : (reachL (taskFit w jobs) (workV w stock jobs)).length ≤ jobs.length
  la : lacksV (taskFit w jobs) stock (reachL (taskFit w jobs) (workV w stock jobs)) = (jobs.length : Int) - mostL (taskFit w jobs) stock
  bd : 0 ≤ mostL (taskFit w jobs) stock ∧ mostL (taskFit w jobs) stock ≤ (jobs.length : Int)
theorem task_nn {w : Wsh} {stock : List Int} {jobs : List (Int × Int)} (h : isTaskV w stock jobs = true) (i : Nat) (hi : i < stock.length) : 0 ≤ stock.getD i 0 :=
  ((isTaskV_iff.1 h).2.1 _ (by rw [List.getD_eq_getElem?_getD, List.getElem?_eq_getElem hi]; exact List.getElem_mem hi)).1
theorem task_ok {w : Wsh} {stock : List Int} {jobs : List (Int × Int)} (h : smallW w) (hk : knownV w (isTaskV w stock jobs) = 0) : TaskOk w stock jobs := by
  have hw := good_of_known h hk
  have hit := (knownV_0 hk).2.1
  have ht := isTaskV_iff.1 hit
  have hgc := task_GC hw hit
  have hnn := task_nn hit
  have hfl : (taskFit w jobs).length = jobs.length := by simp [taskFit]
  have hinv := workF_inv hgc hnn
  rw [← workV_F] at hinv
  have hm := most_work hgc hnn
  rw [← workV_F] at hm
  have hr := reach_lacks hgc hinv
  have hb := mostL_bound (taskFit w jobs) stock
  have hwl := hinv.len
  rw [hfl] at hm hr hb hwl
  refine ⟨hw, hit, hgc, hnn, ?_, ?_, ?_, ?_, ⟨hw, hit, hwl, hinv.val, fun i hi => hinv.mem i (by rw [hfl]; exact hi)⟩, ?_, hr.1, ?_, ?_, hb⟩
  · unfold mostP; rw [hm]; simp [hk]
  · unfold mostRR; simp [hk]
  · unfold workP; simp [hk]
  · unfold shortV; simp [hk]
  · rw [served_eq, hm, hwl]
  · unfold reachL
    rw [List.length_map]
    refine Nat.le_trans (List.length_filter_le _ _) ?_
    rw [List.length_range, hwl]
    exact Nat.le_refl _
  · rw [hr.2, hm]; omega
end Go.Fer
namespace Go.Fer
open M (Step)
set_option linter.unusedVariables false
set_option linter.unusedSimpArgs false
theorem cut_set {N : Nat → Bool} {stock : List Int} {s : Nat} {v : Int} (h : s < stock.length) : cutS N (stock.set s v) = cutS N stock + (if N s = true then v - stock.getD s 0 else 0) := by
  unfold cutS
  rw [List.length_set, rsum_upd (k := s) (g := fun i => if N i = true then stock.getD i 0 else 0) h fun i hi hne => by simp only [getD_set' h, if_neg hne]]
  simp only [getD_set' h, if_true]
  split <;> omega
theorem most_stock {n : Nat} {fit : List (List Int)} {stock : List Int} {s : Nat} {v : Int} (hc : GC n fit stock) (hc' : GC n fit (stock.set s v)) (h0 : ∀ i, i < stock.length → 0 ≤ stock.getD i 0) (hs : s < stock.length) (h1 : stock.getD s 0 ≤ v) (h2 : v ≤ stock.getD s 0 + 1) :
    mostL fit stock ≤ mostL fit (stock.set s v) ∧ mostL fit (stock.set s v) ≤ mostL fit stock + 1 := by
  have h0' : ∀ i, i < (stock.set s v).length → 0 ≤ (stock.set s v).getD i 0 := fun i hi => by
    rw [getD_set' hs]
    have := h0 s hs
    rw [List.length_set] at hi
    have := h0 i hi
    split <;> omega
  have hf : ∀ l ∈ fit, ∀ q ∈ l, 0 ≤ q ∧ q < (stock.length : Int) := fun l hl q hq => by rw [hc.sl]; exact (hc.fits l hl).2 q hq
  have hf' : ∀ l ∈ fit, ∀ q ∈ l, 0 ≤ q ∧ q < ((stock.set s v).length : Int) := fun l hl q hq => by rw [List.length_set]; exact hf l hl q hq
  obtain ⟨N, e⟩ := most_min hc h0
  obtain ⟨N', e'⟩ := most_min hc' h0'
  have a := mostL_cut N fit (stock.set s v) hf' h0'
  have b := mostL_cut N' fit stock hf h0
  rw [cut_set hs] at a e'
  constructor
  · split at e' <;> omega
  · split at a <;> omega
theorem out_app (N : Nat → Bool) (fit : List (List Int)) (l : List Int) : outN N fit ≤ outN N (fit ++ [l]) ∧ outN N (fit ++ [l]) ≤ outN N fit + 1 := by
  unfold outN
  rw [List.countP_append]
  have : List.countP (fun l => !(l.all fun s => N s.toNat)) [l] ≤ 1 := List.countP_le_length
  omega
theorem most_job {n : Nat} {fit : List (List Int)} {stock : List Int} {l : List Int} (hc : GC n fit stock) (hc' : GC n (fit ++ [l]) stock) (h0 : ∀ i, i < stock.length → 0 ≤ stock.getD i 0) :
    mostL fit stock ≤ mostL (fit ++ [l]) stock ∧ mostL (fit ++ [l]) stock ≤ mostL fit stock + 1 := by
  have hf : ∀ l ∈ fit, ∀ q ∈ l, 0 ≤ q ∧ q < (stock.length : Int) := fun l hl q hq => by rw [hc.sl]; exact (hc.fits l hl).2 q hq
  have hf' : ∀ k ∈ fit ++ [l], ∀ q ∈ k, 0 ≤ q ∧ q < (stock.length : Int) := fun k hk q hq => by rw [hc.sl]; exact (hc'.fits k hk).2 q hq
  obtain ⟨N, e⟩ := most_min hc h0
  obtain ⟨N', e'⟩ := most_min hc' h0
  have a := mostL_cut N (fit ++ [l]) stock hf' h0
  have b := mostL_cut N' fit stock hf h0
  have c := out_app N fit l
  have d := out_app N' fit l
  omega
theorem most_perm {n : Nat} {fit fit' : List (List Int)} {stock : List Int} (hc : GC n fit stock) (hc' : GC n fit' stock) (h0 : ∀ i, i < stock.length → 0 ≤ stock.getD i 0) (hp : fit'.Perm fit) : mostL fit' stock = mostL fit stock := by
  have hf : ∀ l ∈ fit, ∀ q ∈ l, 0 ≤ q ∧ q < (stock.length : Int) := fun l hl q hq => by rw [hc.sl]; exact (hc.fits l hl).2 q hq
  have hf' : ∀ l ∈ fit', ∀ q ∈ l, 0 ≤ q ∧ q < (stock.length : Int) := fun k hk q hq => by rw [hc.sl]; exact (hc'.fits k hk).2 q hq
  obtain ⟨N, e⟩ := most_min hc h0
  obtain ⟨N', e'⟩ := most_min hc' h0
  have a := mostL_cut N fit' stock hf' h0
  have b := mostL_cut N' fit stock hf h0
  have c : ∀ N, outN N fit' = outN N fit := fun N => hp.countP_eq _
  rw [c] at a e'
  omega
def rotV {α : Type} (d : α) (l : List α) (k : Nat) : List α := (List.range l.length).map fun i => l.getD ((i + k) % l.length) d
theorem rotV_len {α : Type} (d : α) (l : List α) (k : Nat) : (rotV d l k).length = l.length := by simp [rotV]
theorem rotV_perm {α : Type} (d : α) (l : List α) (k : Nat) : (rotV d l k).Perm l := by
  have : rotV d l k = l.drop (k % l.length) ++ l.take (k % l.length) := by
    by_cases hl : l.length = 0
    · have : l = [] := List.length_eq_zero_iff.1 hl
      subst this; simp [rotV]
    have hk : k % l.length < l.length := Nat.mod_lt _ (by omega)
    refine List.ext_getElem (by simp [rotV]; omega) fun i h0 h2 => ?_
    have h1 : i < l.length := by rw [rotV_len] at h0; exact h0
    simp only [rotV, List.getElem_map, List.getElem_range]
    rw [List.getD_eq_getElem?_getD, List.getElem?_eq_getElem (Nat.mod_lt _ (by omega)), Option.getD_some]
    have e : (i + k) % l.length = if i + k % l.length < l.length then i + k % l.length else i + k % l.length - l.length := by
      rw [Nat.add_mod, Nat.mod_eq_of_lt h1]
      split
      · rename_i h; exact Nat.mod_eq_of_lt h
      · rw [Nat.mod_eq_sub_mod (by omega), Nat.mod_eq_of_lt (by omega)]
    by_cases hlt : i + k % l.length < l.length
    · rw [List.getElem_append_left (by rw [List.length_drop]; omega), List.getElem_drop]
      congr 1
      rw [e, if_pos hlt, Nat.add_comm]
    · rw [List.getElem_append_right (by rw [List.length_drop]; omega), List.getElem_take]
      congr 1
      rw [e, if_neg hlt, List.length_drop]
      omega
  rw [this]
  refine List.perm_append_comm.trans ?_
  rw [List.take_append_drop]
theorem foldl_setR {α : Type} (f : Nat → α) (l : List α) : ∀ n, n ≤ l.length → (List.range n).foldl (fun t i => t.set i (f i)) l = (List.range n).map f ++ l.drop n
  | 0, _ => by simp
  | n + 1, h => by
    rw [List.range_succ, List.foldl_append, foldl_setR f l n (by omega), List.foldl_cons, List.foldl_nil, List.map_append, List.set_append_right _ _ (by simp)]
    simp only [List.length_map, List.length_range, Nat.sub_self]
    rw [List.drop_eq_getElem_cons (by omega : n < l.length), List.set_cons_zero, List.append_assoc]
    rfl
theorem tmod_nat (a b : Nat) : Int.tmod ((a : Int)) (b : Int) = ((a % b : Nat) : Int) := rfl
def permT (w : Wsh) (t : List Trl) : Wsh := (w.1, w.2.1, w.2.2.1, t)
theorem clash_symm {a b : Trl} (h : clash a b = false) : clash b a = false := by
  have : clash b a = clash a b := by
    unfold clash
    simp only [eq_comm, ne_eq]
  rw [this]; exact h
theorem perm_lens {w : Wsh} {t : List Trl} (hp : t.Perm w.2.2.2) (i : Int) : lens (permT w t) i = lens w i := by
  unfold lens
  refine List.filter_congr fun n _ => ?_
  unfold canBe
  have : (permT w t).2.2.2.all (bears (permT w t) i n) = w.2.2.2.all (bears w i n) := by
    rw [Bool.eq_iff_iff, List.all_eq_true, List.all_eq_true]
    exact ⟨fun h x hx => h x (hp.mem_iff.2 hx), fun h x hx => h x (hp.mem_iff.1 hx)⟩
  rw [this]
  rfl
theorem perm_known {w : Wsh} {t : List Trl} (hp : t.Perm w.2.2.2) (b : Bool) : knownV (permT w t) b = knownV w b := by
  have h1 : wV (permT w t) = wV w := by
    have e : (permT w t).2.2.2.all (trialV (permT w t)) = w.2.2.2.all (trialV w) := by
      rw [Bool.eq_iff_iff, List.all_eq_true, List.all_eq_true]
      exact ⟨fun h x hx => h x (hp.mem_iff.2 hx), fun h x hx => h x (hp.mem_iff.1 hx)⟩
    have e2 : headV (permT w t) = headV w := by
      unfold headV permT
      rw [hp.length_eq]
    unfold wV
    rw [e, e2]
    rfl
  have h2 : tabOk t = tabOk w.2.2.2 := by
    rw [Bool.eq_iff_iff, tabOk_iff, tabOk_iff]
    exact hp.pairwise_iff fun h => clash_symm h
  have h3 : hasTruth (permT w t) = hasTruth w := by
    unfold hasTruth
    show ((List.range w.1.length).all fun i => !decide (((lens (permT w t) (i : Int)).length : Int) = 0)) = _
    exact all_congr' fun i _ => by rw [perm_lens hp]
  have h2' : tabOk (permT w t).2.2.2 = tabOk w.2.2.2 := h2
  unfold knownV checkV
  rw [h1, h3, h2']
theorem perm_fits {w : Wsh} {t : List Trl} (hp : t.Perm w.2.2.2) (jobs : List (Int × Int)) : taskFit (permT w t) jobs = taskFit w jobs := by
  unfold taskFit
  refine List.map_congr_left fun j _ => ?_
  unfold fitJ
  refine congrArg (List.map _) (List.filter_congr fun i _ => ?_)
  unfold fitsV
  rw [perm_lens hp]
  rfl
theorem perm_needed {w : Wsh} {t : List Trl} (hp : t.Perm w.2.2.2) : neededR (permT w t) = neededR w := by
  have hm : ∀ list m, mendV (permT w t) list m = mendV w list m := fun list m => by
    have hc : casesV (permT w t) m = casesV w m := by
      unfold casesV
      exact List.map_congr_left fun i _ => caseV_congr rfl rfl rfl (perm_lens hp _)
    unfold mendV
    rw [hc]
    rfl
  have ha : ∀ list, mendsAllV (permT w t) list = mendsAllV w list := fun list => by
    unfold mendsAllV
    exact all_congr' fun m _ => by rw [hm]
  have hl : listsV (permT w t) = listsV w := by
    unfold listsV
    show (List.range (2 ^ w.1.length)).foldl (stepL (permT w t)) [] = _
    refine foldl_congr' fun out b _ => ?_
    unfold stepL
    show (if (decide ((out.length : Int) > 0) && decide (((bitsL w.1.length b).length : Int) > firstLen out)) = true then out else if mendsAllV (permT w t) (bitsL w.1.length b) = true then _ else out) = _
    rw [ha]
    rfl
  unfold neededR fewestR
  rw [hl, perm_known hp]
  rfl
theorem isTask_set {w : Wsh} {stock : List Int} {jobs : List (Int × Int)} (h : isTaskV w stock jobs = true) {s : Nat} {v : Int} (h0 : 0 ≤ v) (h1 : v ≤ 10) : isTaskV w (stock.set s v) jobs = true := by
  rw [isTaskV_iff] at h ⊢
  refine ⟨by rw [List.length_set]; exact h.1, fun n hn => ?_, h.2.2⟩
  rcases List.mem_or_eq_of_mem_set hn with e | e
  · exact h.2.1 n e
  · rw [e]; exact ⟨h0, h1⟩
theorem isTask_app {w : Wsh} {stock : List Int} {jobs : List (Int × Int)} (h : isTaskV w stock jobs = true) {j : Int × Int} (hl : jobs.length ≤ 9) (hj : isSlotOfV w j.1 j.2 = true) : isTaskV w stock (jobs ++ [j]) = true := by
  rw [isTaskV_iff] at h ⊢
  refine ⟨h.1, h.2.1, by rw [List.length_append, List.length_singleton]; omega, fun q hq => ?_⟩
  rcases List.mem_append.1 hq with e | e
  · exact h.2.2.2 q e
  · rw [List.mem_singleton.1 e]; exact hj
theorem isTask_perm {w : Wsh} {stock : List Int} {jobs jobs' : List (Int × Int)} (h : isTaskV w stock jobs = true) (hp : jobs'.Perm jobs) : isTaskV w stock jobs' = true := by
  rw [isTaskV_iff] at h ⊢
  exact ⟨h.1, h.2.1, by rw [hp.length_eq]; exact h.2.2.1, fun q hq => h.2.2.2 q (hp.mem_iff.1 hq)⟩
theorem lawStock (x : Wsh × (List Int × List (Int × Int)) × Int × (Int × Int) × Int) (h : smallW x.1) (hl1 : x.2.1.1.length < 2 ^ 63) (hl2 : x.2.1.2.length < 2 ^ 63) :
    S_law07_PartsStock fcReady.sh fcWorks.sh fcPNeeded.sh shCopyIO fcIsTask.sh fcIsSpare.sh fcPMost.sh fcIsSlotOf.sh fcSameInts.sh x = M.pure true := by
  obtain ⟨w, ⟨stock, jobs⟩, spare, job, turn⟩ := x
  change smallW w at h
  change stock.length < 2 ^ 63 at hl1
  change jobs.length < 2 ^ 63 at hl2
  have htp : taskP (w, stock, jobs) := ⟨h, hl1, hl2⟩
  unfold S_law07_PartsStock
  simp only [FC.sh, M.bind_det, M.safe_det, M.val_det, M.gdo_det, M.req_true h, M.req_True, ofNat_def]
  rw [M.req_true (by exact fun _ => htp), M.req_true (by exact fun _ => h)]
  generalize hcd : (!readyV w || decide ((stock.length : Int) > 40) || decide ((jobs.length : Int) > 9) || _ || _ || decide (turn < 0) || decide (turn > 100)) = c
  cases c with
  | true => simp
  | false =>
    simp only [Bool.or_eq_false_iff] at hcd
    obtain ⟨⟨⟨⟨⟨⟨c1, c2⟩, c3⟩, c4⟩, c5⟩, c6⟩, c7⟩ := hcd
    have hr : readyV w = true := by simpa using c1
    rw [hr, c2, c3] at c4
    have hit : isTaskV w stock jobs = true := by simpa using c4
    rw [hr, c2, c3, hit] at c5
    have hsp : isSpareV w spare = true := by simpa using c5
    rw [decide_eq_false_iff_not] at c2 c3 c6 c7
    obtain ⟨hcp, hk⟩ := ready_of hr
    have hkk : ∀ {b}, b = true → knownV w b = 0 := fun e => by rw [e]; exact hk
    have T := task_ok h (hkk hit)
    have ht := isTaskV_iff.1 hit
    have hsr := isSpareV_iff.1 hsp
    obtain ⟨k, rfl⟩ := Int.eq_ofNat_of_zero_le (show 0 ≤ turn by omega)
    have hl3 : lenLe (0 + stock.length) := by unfold lenLe; omega
    have hsl : spare.toNat < stock.length := by omega
    have r1 : 0 ≤ spare ∧ spare < (stock.length : Int) := by omega
    have hst := ht.2.1 _ (getD_mem (l := stock) (i := spare) (d := 0) r1.1 r1.2)
    have hw1 := wrap64 (n := stock.getD spare.toNat 0 + 1) (by omega) (by omega)
    have hbd := T.bd
    have hw2 := wrap64 (n := mostL (taskFit w jobs) stock + 1) (by omega) (by omega)
    simp only [Bool.false_eq_true, if_false, M.req_true htp, T.mp, ne_eq, not_true, decide_false, add_defN, M.req_true hl3, List.nil_append, M.req_true r1, add_def, hw1, hw2]
    generalize hv : (if stock.getD spare.toNat 0 + 1 < 10 then stock.getD spare.toNat 0 + 1 else 10) = v
    have hv1 : stock.getD spare.toNat 0 ≤ v ∧ v ≤ stock.getD spare.toNat 0 + 1 ∧ 0 ≤ v ∧ v ≤ 10 := by
      rw [← hv]; split <;> omega
    have hit2 := isTask_set hit (s := spare.toNat) hv1.2.2.1 hv1.2.2.2
    have T2 := task_ok h (hkk hit2)
    have htp2 : taskP (w, stock.set spare.toNat v, jobs) := ⟨h, by show (stock.set spare.toNat v).length < _; rw [List.length_set]; exact hl1, hl2⟩
    have hms := most_stock T.gc T2.gc T.nn hsl hv1.1 hv1.2.1
    have s1 : ¬ mostL (taskFit w jobs) (stock.set spare.toNat v) < mostL (taskFit w jobs) stock := by omega
    have s2 : ¬ mostL (taskFit w jobs) (stock.set spare.toNat v) > mostL (taskFit w jobs) stock + 1 := by omega
    simp only [M.req_true htp2, T2.mp, not_true, decide_false, s1, s2, Bool.or_self, Bool.false_eq_true, if_false]
    have fin : ∀ (m : M (Step _ Bool)) (g : _ → M Bool), m = M.pure (Step.next (mostL (taskFit w jobs) stock, w, (stock, jobs), (spare, job, (k : Int)), ())) → g (mostL (taskFit w jobs) stock, w, (stock, jobs), (spare, job, (k : Int)), ()) = M.pure true → M.bind m (Step.go g) = M.pure true := fun m g e1 e2 => by rw [e1, M.bind_pure, M.go_next, e2]
    refine fin _ _ ?_ ?_
    · by_cases hj : isSlotOfV w job.1 job.2 = true
      · have l1 : lenLe (0 + jobs.length) := by unfold lenLe; omega
        have l2 : lenLe (jobs.length + (0 + 1)) := by unfold lenLe; omega
        have hit3 := isTask_app hit (j := job) (by omega) hj
        have T3 := task_ok h (hkk hit3)
        have htp3 : taskP (w, stock, jobs ++ [job]) := ⟨h, hl1, by show (jobs ++ [job]).length < _; rw [List.length_append, List.length_singleton]; omega⟩
        have hfa : taskFit w (jobs ++ [job]) = taskFit w jobs ++ [fitJ w job] := by simp [taskFit]
        have g3 := T3.gc
        have mp3 := T3.mp
        rw [hfa] at g3 mp3
        have hmj := most_job T.gc g3 T.nn
        have s3 : ¬ mostL (taskFit w jobs ++ [fitJ w job]) stock < mostL (taskFit w jobs) stock := by omega
        have s4 : ¬ mostL (taskFit w jobs ++ [fitJ w job]) stock > mostL (taskFit w jobs) stock + 1 := by omega
        simp only [hj, if_true, M.req_true l1, M.req_true l2, M.req_true htp3, mp3, not_true, decide_false, s3, s4, Bool.or_self, Bool.false_eq_true, if_false]
      · simp only [hj, Bool.false_eq_true, if_false]
    · have hc1 : M.det (copyW w) (w.2.2.1, w.1, w.2.2.2, w.2.1, ()) = M.pure (w.2.2.1, w.1, w.2.2.2, w.2.1, ()) := M.det_true hcp _
      have hcio : shCopyIO (w, ()) = M.pure (w.2.2.1, w.1, w.2.2.2, w.2.1, ()) := hc1
      simp only [hcio, M.bind_pure]
      have hpj := rotV_perm (0, 0) jobs k
      have hpt := rotV_perm (0, 0, 0, 0) w.2.2.2 k
      rw [M.loop_list (List.range jobs.length) (fun i (js : List (Int × Int)) => (mostL (taskFit w jobs) stock, (i : Int), w, (stock, jobs), (spare, job, (k : Int)), w.2.2.1, js, w.1, w.2.2.2, w.2.1, ())) (fun (i : Nat) js => .next (js ++ [jobs.getD ((i + k) % jobs.length) (0, 0)])) (fun js => .next (mostL (taskFit w jobs) stock, w, (stock, jobs), (spare, job, (k : Int)), w.2.2.1, js, w.1, w.2.2.2, w.2.1, ())) (fun i js => js.length ≤ i) [] ?_ ?_ ?_ ?_]
      · rw [foldS_next, foldl_map_app]
        simp only [M.bind_pure, M.go_next, List.nil_append]
        have e1 : (List.range jobs.length).map (fun i => jobs.getD ((i + k) % jobs.length) (0, 0)) = rotV (0, 0) jobs k := rfl
        rw [e1]
        have htl := hcp.2.2.1
        rw [M.loop_list (List.range w.2.2.2.length) (fun i (t : List Trl) => (mostL (taskFit w jobs) stock, (i : Int), w, (stock, jobs), (spare, job, (k : Int)), w.2.2.1, rotV (0, 0) jobs k, w.1, t, w.2.1, ())) (fun (i : Nat) t => .next (t.set i (w.2.2.2.getD ((i + k) % w.2.2.2.length) (0, 0, 0, 0)))) (fun t => .next (mostL (taskFit w jobs) stock, w, (stock, jobs), w.2.2.1, rotV (0, 0) jobs k, w.1, t, w.2.1, ())) (fun i t => t.length = w.2.2.2.length) w.2.2.2 ?_ ?_ ?_ ?_]
        · rw [foldS_next, foldl_setR (fun i => w.2.2.2.getD ((i + k) % w.2.2.2.length) (0, 0, 0, 0)) _ _ (Nat.le_refl _), List.drop_length, List.append_nil]
          have e2 : (List.range w.2.2.2.length).map (fun i => w.2.2.2.getD ((i + k) % w.2.2.2.length) (0, 0, 0, 0)) = rotV (0, 0, 0, 0) w.2.2.2 k := rfl
          rw [e2]
          revert hpt
          generalize rotV (0, 0, 0, 0) w.2.2.2 k = t
          intro hpt
          have e3 : (w.1, w.2.1, w.2.2.1, t) = permT w t := rfl
          have hso : smallW (permT w t) := ⟨h.1, h.2.1, by show t.length < _; rw [hpt.length_eq]; exact h.2.2.1, h.2.2.2⟩
          have hit4 : isTaskV (permT w t) stock (rotV (0, 0) jobs k) = true := isTask_perm (w := w) hit hpj
          have hk4 : knownV (permT w t) (isTaskV (permT w t) stock (rotV (0, 0) jobs k)) = 0 := by rw [hit4, perm_known hpt]; exact hk
          have T4 := task_ok hso hk4
          have htp4 : taskP (permT w t, stock, rotV (0, 0) jobs k) := ⟨hso, hl1, by show (rotV (0, 0) jobs k).length < _; rw [rotV_len]; exact hl2⟩
          have mp4 := T4.mp
          have gc4 := T4.gc
          rw [perm_fits hpt] at mp4 gc4
          have hpf : (taskFit w (rotV (0, 0) jobs k)).Perm (taskFit w jobs) := hpj.map _
          rw [most_perm T.gc gc4 T.nn hpf] at mp4
          have hnl := neededR_len (w := w)
          have r9 : (neededR w).1.length < 2 ^ 63 ∧ (neededR w).1.length < 2 ^ 63 := by have := h.1; omega
          simp only [M.bind_pure, M.go_next, e3, M.req_true htp4, mp4, M.req_true h, M.req_true hso, perm_needed hpt, decide_true, Bool.and_self, true_implies]
          simp only [if_true, true_implies, M.req_true r9, Bool.true_and, decide_true, M.req_True, Bool.and_self]
        · rfl
        · rfl
        · intro i hi t ht'
          have hi : i < w.2.2.2.length := by simpa using hi
          have hwi := wrap64 (n := (i : Int) + 1) (by omega) (by omega)
          have hwk := wrap64 (n := (i : Int) + (k : Int)) (by omega) (by omega)
          have hm := Nat.mod_lt (i + k) (show 0 < w.2.2.2.length by omega)
          have q1 : (w.2.2.2.length : Int) ≠ 0 := by omega
          have q2 : Int.tmod ((i : Int) + (k : Int)) (w.2.2.2.length : Int) = (((i + k) % w.2.2.2.length : Nat) : Int) := tmod_nat (i + k) _
          refine ⟨?_, fun b' hb' => ?_⟩
          · simp only [ofNat_def, lt_len hi, if_true, List.getElem_range, hwk, q2, M.req_true q1, in_len hm, ht', in_len hi, M.req_True, Int.toNat_natCast, hwi]
            rfl
          · cases hb'
            rw [List.length_set]; exact ht'
        · intro t ht'
          simp
      · rfl
      · simp
      · intro i hi js hjs
        have hi : i < jobs.length := by simpa using hi
        have hwi := wrap64 (n := (i : Int) + 1) (by omega) (by omega)
        have hwk := wrap64 (n := (i : Int) + (k : Int)) (by omega) (by omega)
        have hm := Nat.mod_lt (i + k) (show 0 < jobs.length by omega)
        have q1 : (jobs.length : Int) ≠ 0 := by omega
        have q2 : Int.tmod ((i : Int) + (k : Int)) (jobs.length : Int) = (((i + k) % jobs.length : Nat) : Int) := tmod_nat (i + k) _
        have hll : lenLe (js.length + (0 + 1)) := by unfold lenLe; omega
        refine ⟨?_, fun b' hb' => ?_⟩
        · simp only [ofNat_def, lt_len hi, if_true, List.getElem_range, hwk, q2, M.req_true q1, in_len hm, M.req_True, Int.toNat_natCast, hwi, M.req_true hll]
          rfl
        · cases hb'
          rw [List.length_append, List.length_singleton]; omega
      · intro js hjs
        simp
end Go.Fer
namespace Go.Fer.Sk
open Go.Proofs
open M (Step)
set_option maxRecDepth 100000
set_option linter.unusedVariables false
set_option linter.unusedSimpArgs false
noncomputable def b_k19 : Code := Try.f19.body.getD .skip
theorem b_k19_ok : Try.f19.body = some b_k19 := by kernel_rfl
noncomputable def Psi_k19 (k : Nat) : Option KC := if k = 22 then some (.sc ⟨(.prod t26 (.prod t3 t3)), t4, fcIsSlotOf.sh, true⟩) else if k = 59 then some (.sc ⟨(.prod t3 (.prod t3 t3)), t4, fcWithin.sh, true⟩) else none
theorem Psi_k19_ok : PsiOk Try.prog noU Psi_k19 := by
  intro k c h
  unfold Psi_k19 at h
  split at h
  · cases h; subst_vars; exact ⟨spec_k22, fun _ _ => M.det_det⟩
  split at h
  · cases h; subst_vars; exact ⟨spec_k59, fun _ _ => M.det_det⟩
  cases h
def ann_k19 : Ann := (.seq .leaf (.seq (.seq .leaf (.cond (.seq .leaf .leaf) .leaf)) (.join ⟨[(2, .val t42), (3, .loc 3 0)], [(3, .whole t26)]⟩ (.seq .leaf (.block (.loop ⟨[(1, .val t36), (2, .val t42), (3, .loc 3 0), (7, .val t3)], [(3, .whole t26)]⟩ (.seq (.seq .leaf (.cond .leaf .leaf)) (.seq (.block (.seq .leaf (.cond (.seq .leaf .leaf) .leaf))) .leaf))))) (.join ⟨[], []⟩ (.seq .leaf (.block (.loop ⟨[(2, .val t42), (3, .loc 3 0), (8, .val t3)], [(3, .whole t26)]⟩ (.seq (.seq .leaf (.cond .leaf .leaf)) (.seq (.block (.seq .leaf (.cond (.seq .leaf .leaf) .leaf))) .leaf))))) (.seq .leaf .leaf)))))
theorem l_k19 (x) : funI noU (tabT tab) noPhi Psi_k19 Try.f19 b_k19 ann_k19 (.prod t26 (.prod t36 t42)) t4 x = S_ref07_IsTask fcIsSlotOf.sh fcWithin.sh x := by kernel_rfl
theorem spec_k19 : FnSpec Try.prog 19 (.prod t26 (.prod t36 t42)) t4 fcIsTask.sh :=
  fn_ok mixOk tabOk noU_ok noPhi_ok Psi_k19_ok Try.func19 b_k19_ok (by kernel_rfl) fun x => M.le_trans (M.le_of_eq (l_k19 x)) (sIsTask x)
noncomputable def b_k4 : Code := Try.f4.body.getD .skip
theorem b_k4_ok : Try.f4.body = some b_k4 := by kernel_rfl
noncomputable def Psi_k4 (k : Nat) : Option KC := if k = 13 then some (.sc ⟨t26, t4, fcReady.sh, true⟩) else if k = 14 then some (.sc ⟨.unit, t4, fcWorks.sh, true⟩) else if k = 16 then some (.sc ⟨t26, (.prod t36 t33), fcPNeeded.sh, true⟩) else if k = 17 then some (.io ioc_copy) else if k = 19 then some (.sc ⟨(.prod t26 (.prod t36 t42)), t4, fcIsTask.sh, true⟩) else if k = 20 then some (.sc ⟨(.prod t26 t3), t4, fcIsSpare.sh, true⟩) else if k = 21 then some (.sc ⟨(.prod t26 (.prod t36 t42)), (.prod t3 t33), fcPMost.sh, true⟩) else if k = 22 then some (.sc ⟨(.prod t26 (.prod t3 t3)), t4, fcIsSlotOf.sh, true⟩) else if k = 23 then some (.sc ⟨(.prod t36 t36), t4, fcSameInts.sh, true⟩) else none
theorem Psi_k4_ok : PsiOk Try.prog noU Psi_k4 := by
  intro k c h
  unfold Psi_k4 at h
  by_cases e : k = 13
  · rw [if_pos e] at h; cases h; subst e; exact ⟨spec_k13, fun _ _ => M.det_det⟩
  rw [if_neg e] at h; clear e
  by_cases e : k = 14
  · rw [if_pos e] at h; cases h; subst e; exact ⟨spec_k14, fun _ _ => M.det_det⟩
  rw [if_neg e] at h; clear e
  by_cases e : k = 16
  · rw [if_pos e] at h; cases h; subst e; exact ⟨spec_k16, fun _ _ => M.det_det⟩
  rw [if_neg e] at h; clear e
  by_cases e : k = 17
  · rw [if_pos e] at h; cases h; subst e; exact io_copy
  rw [if_neg e] at h; clear e
  by_cases e : k = 19
  · rw [if_pos e] at h; cases h; subst e; exact ⟨spec_k19, fun _ _ => M.det_det⟩
  rw [if_neg e] at h; clear e
  by_cases e : k = 20
  · rw [if_pos e] at h; cases h; subst e; exact ⟨spec_k20, fun _ _ => M.det_det⟩
  rw [if_neg e] at h; clear e
  by_cases e : k = 21
  · rw [if_pos e] at h; cases h; subst e; exact ⟨spec_k21, fun _ _ => M.det_det⟩
  rw [if_neg e] at h; clear e
  by_cases e : k = 22
  · rw [if_pos e] at h; cases h; subst e; exact ⟨spec_k22, fun _ _ => M.det_det⟩
  rw [if_neg e] at h; clear e
  by_cases e : k = 23
  · rw [if_pos e] at h; cases h; subst e; exact ⟨spec_k23, fun _ _ => M.det_det⟩
  rw [if_neg e] at h; clear e
  cases h
def ann_k4 : Ann := (.seq .leaf (.seq (.seq .leaf (.cond (.seq .leaf .leaf) .leaf)) (.seq .leaf (.seq (.seq .leaf (.cond (.seq .leaf .leaf) .leaf)) (.seq .leaf (.seq .leaf (.seq (.seq .leaf (.seq .leaf (.cond (.seq .leaf .leaf) .leaf))) (.join ⟨[(3, .loc 3 0), (4, .loc 4 0), (5, .loc 5 0), (7, .val t3)], [(3, .whole t26), (4, .whole t44), (5, .whole t48)]⟩ (.seq .leaf (.cond (.seq .leaf (.seq .leaf (.cond (.seq .leaf .leaf) .leaf))) .leaf)) (.seq .leaf (.seq .leaf (.join ⟨[(3, .loc 3 0), (4, .loc 4 0), (5, .loc 5 0), (7, .val t3), (14, .loc 14 0), (15, .own 15)], [(3, .whole t26), (4, .whole t44), (5, .whole t48), (14, .cells t26 [.own 51500, .own 51502, .val t3, .own 51501]), (15, .arr t28), (51500, .arr t30), (51501, .arr t54), (51502, .arr t74)]⟩ (.seq .leaf (.block (.loop ⟨[(3, .loc 3 0), (4, .loc 4 0), (5, .loc 5 0), (7, .val t3), (14, .loc 14 0), (15, .own 15), (16, .val t3)], [(3, .whole t26), (4, .whole t44), (5, .whole t48), (14, .cells t26 [.own 51500, .own 51502, .val t3, .own 51501]), (15, .arr t28), (51500, .arr t30), (51501, .arr t54), (51502, .arr t74)]⟩ (.seq (.seq .leaf (.cond .leaf .leaf)) (.seq (.block .leaf) .leaf))))) (.join ⟨[(3, .loc 3 0), (4, .loc 4 0), (7, .val t3), (14, .loc 14 0), (15, .own 15)], [(3, .whole t26), (4, .whole t44), (14, .cells t26 [.own 51500, .own 51502, .val t3, .own 51501]), (15, .arr t28), (51500, .arr t30), (51501, .arr t54), (51502, .arr t74)]⟩ (.seq .leaf (.block (.loop ⟨[(3, .loc 3 0), (4, .loc 4 0), (5, .loc 5 0), (7, .val t3), (14, .loc 14 0), (15, .own 15), (17, .val t3)], [(3, .whole t26), (4, .whole t44), (5, .whole t48), (14, .cells t26 [.own 51500, .own 51502, .val t3, .own 51501]), (15, .arr t28), (51500, .arr t30), (51501, .arr t54), (51502, .arr t74)]⟩ (.seq (.seq .leaf (.cond .leaf .leaf)) (.seq (.block .leaf) .leaf))))) (.seq .leaf (.seq .leaf (.seq .leaf (.seq .leaf .leaf))))))))))))))))
theorem l_k4 (x) : funI noU (tabT tab) noPhi Psi_k4 Try.f4 b_k4 ann_k4 (.prod t26 (.prod t44 t48)) t4 x = S_law07_PartsStock fcReady.sh fcWorks.sh fcPNeeded.sh shCopyIO fcIsTask.sh fcIsSpare.sh fcPMost.sh fcIsSlotOf.sh fcSameInts.sh x := by kernel_rfl
theorem spec_k4 : FnSpec Try.prog 4 (.prod t26 (.prod t44 t48)) t4 (fun x => S_law07_PartsStock fcReady.sh fcWorks.sh fcPNeeded.sh shCopyIO fcIsTask.sh fcIsSpare.sh fcPMost.sh fcIsSlotOf.sh fcSameInts.sh x) :=
  fn_ok mixOk tabOk noU_ok noPhi_ok Psi_k4_ok Try.func4 b_k4_ok (by kernel_rfl) fun x => M.le_of_eq (l_k4 x)
end Go.Fer.Sk
