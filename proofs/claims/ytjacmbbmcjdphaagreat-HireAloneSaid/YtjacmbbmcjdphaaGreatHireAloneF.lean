/- Part 6 of the proof of HireAlone: shallow programs of Go functions, and what they compute. No condition. -/
import Derived.Test.YtjacmbbmcjdphaaGreatHireAloneE
noncomputable section
namespace Go.Fer.Sk
open Go.Proofs
open M (Step)
set_option maxRecDepth 100000
set_option linter.unusedVariables false
set_option linter.unusedSimpArgs false
def b_k44:Code:=Tryz.f44.body.getD .skip
theorem b_k44_ok:Tryz.f44.body=some b_k44:=by kernel_rfl
def Psi_k44 (k:Nat):Option KC:=none
theorem Psi_k44_ok:PsiOk Tryz.prog noU Psi_k44:=by
 intro k c h
 unfold Psi_k44 at h
 cases h
def ann_k44:Ann:=(.seq .leaf (.seq .leaf .leaf))
theorem l_k44 (x):funI noU (tabT tab) noPhi Psi_k44 Tryz.f44 b_k44 ann_k44 (.prod t3 (.prod t3 t3)) t4 x=S_hire_within  x:=by kernel_rfl
theorem spec_k44:FnSpec Tryz.prog 44 (.prod t3 (.prod t3 t3)) t4 fcWithin.sh:=
 fn_ok mixOk tabOk noU_ok noPhi_ok Psi_k44_ok Tryz.func44 b_k44_ok (by kernel_rfl) fun x=>M.le_trans (M.le_of_eq (l_k44 x)) (sHWithin x)
def b_k112:Code:=Tryz.f112.body.getD .skip
theorem b_k112_ok:Tryz.f112.body=some b_k112:=by kernel_rfl
def Psi_k112 (k:Nat):Option KC:=none
theorem Psi_k112_ok:PsiOk Tryz.prog noU Psi_k112:=by
 intro k c h
 unfold Psi_k112 at h
 cases h
def ann_k112:Ann:=(.seq .leaf (.join ⟨[],[]⟩ (.seq .leaf (.block (.loop ⟨[(0,.val t23),(1,.val t119),(7,.val t3),(8,.val t3)],[]⟩ (.seq .leaf (.seq (.cond .leaf .leaf) (.seq (.block (.seq .leaf (.seq .leaf (.cond (.seq .leaf .leaf) .leaf)))) .leaf)))))) (.seq .leaf .leaf)))
theorem l_k112 (x):funI noU (tabT tab) noPhi Psi_k112 Tryz.f112 b_k112 ann_k112 (.prod t23 t119) t3 x=S_slices_IndexFunc_api_Slip_api_Slip  x:=by kernel_rfl
theorem spec_k112:FnSpec Tryz.prog 112 (.prod t23 t119) t3 (fcIndexFunc tSlip).sh:=
 fn_ok mixOk tabOk noU_ok noPhi_ok Psi_k112_ok Tryz.func112 b_k112_ok (by kernel_rfl) fun x=>M.le_trans (M.le_of_eq (l_k112 x)) (sIndexFuncS x)
def b_k90:Code:=Tryz.f90.body.getD .skip
theorem b_k90_ok:Tryz.f90.body=some b_k90:=by kernel_rfl
def Psi_k90 (k:Nat):Option KC:=if k=112 then some (.sc ⟨(.prod t23 t119),t3,(fcIndexFunc tSlip).sh,true⟩) else none
theorem Psi_k90_ok:PsiOk Tryz.prog noU Psi_k90:=by
 intro k c h
 unfold Psi_k90 at h
 split at h
 ·cases h;subst_vars;exact ⟨spec_k112,fun _ _=>M.det_det⟩
 cases h
def ann_k90:Ann:=(.seq .leaf (.seq .leaf .leaf))
theorem l_k90 (x):funI noU (tabT tab) noPhi Psi_k90 Tryz.f90 b_k90 ann_k90 (.prod t23 t119) t4 x=S_slices_ContainsFunc_api_Slip_api_Slip (fcIndexFunc tSlip).sh x:=by kernel_rfl
theorem spec_k90:FnSpec Tryz.prog 90 (.prod t23 t119) t4 (fcContainsFunc tSlip).sh:=
 fn_ok mixOk tabOk noU_ok noPhi_ok Psi_k90_ok Tryz.func90 b_k90_ok (by kernel_rfl) fun x=>M.le_trans (M.le_of_eq (l_k90 x)) (sContainsFuncS x)
def b_k95:Code:=Tryz.f95.body.getD .skip
theorem b_k95_ok:Tryz.f95.body=some b_k95:=by kernel_rfl
def Psi_k95 (k:Nat):Option KC:=if k=44 then some (.sc ⟨(.prod t3 (.prod t3 t3)),t4,fcWithin.sh,true⟩) else none
theorem Psi_k95_ok:PsiOk Tryz.prog noU Psi_k95:=by
 intro k c h
 unfold Psi_k95 at h
 split at h
 ·cases h;subst_vars;exact ⟨spec_k44,fun _ _=>M.det_det⟩
 cases h
def ann_k95:Ann:=(.seq .leaf (.join ⟨[(1,.loc 1 0)],[(1,.whole t26)]⟩ (.seq .leaf (.block (.loop ⟨[(1,.loc 1 0),(13,.own 13),(14,.val t3),(15,.val t3)],[(1,.whole t26),(13,.arr t3)]⟩ (.seq .leaf (.seq (.cond .leaf .leaf) (.seq (.block (.seq .leaf (.seq .leaf (.cond (.seq .leaf .leaf) .leaf)))) .leaf)))))) (.seq .leaf .leaf)))
theorem l_k95 (x):funI noU (tabT tab) noPhi Psi_k95 Tryz.f95 b_k95 ann_k95 t26 t4 x=S_hire_isTariff fcWithin.sh x:=by kernel_rfl
theorem spec_k95:FnSpec Tryz.prog 95 t26 t4 fcTar.sh:=
 fn_ok mixOk tabOk noU_ok noPhi_ok Psi_k95_ok Tryz.func95 b_k95_ok (by kernel_rfl) fun x=>M.le_trans (M.le_of_eq (l_k95 x)) (sHTar x)
def b_k59:Code:=Tryz.f59.body.getD .skip
theorem b_k59_ok:Tryz.f59.body=some b_k59:=by kernel_rfl
def Psi_k59 (k:Nat):Option KC:=if k=44 then some (.sc ⟨(.prod t3 (.prod t3 t3)),t4,fcWithin.sh,true⟩) else none
theorem Psi_k59_ok:PsiOk Tryz.prog noU Psi_k59:=by
 intro k c h
 unfold Psi_k59 at h
 split at h
 ·cases h;subst_vars;exact ⟨spec_k44,fun _ _=>M.det_det⟩
 cases h
def ann_k59:Ann:=(.seq .leaf (.seq .leaf .leaf))
theorem l_k59 (x):funI noU (tabT tab) noPhi Psi_k59 Tryz.f59 b_k59 ann_k59 t3 t4 x=S_hire_isId fcWithin.sh x:=by kernel_rfl
theorem spec_k59:FnSpec Tryz.prog 59 t3 t4 fcId.sh:=
 fn_ok mixOk tabOk noU_ok noPhi_ok Psi_k59_ok Tryz.func59 b_k59_ok (by kernel_rfl) fun x=>M.le_trans (M.le_of_eq (l_k59 x)) (sHId x)
def b_k97:Code:=Tryz.f97.body.getD .skip
theorem b_k97_ok:Tryz.f97.body=some b_k97:=by kernel_rfl
def Psi_k97 (k:Nat):Option KC:=if k=44 then some (.sc ⟨(.prod t3 (.prod t3 t3)),t4,fcWithin.sh,true⟩) else if k=59 then some (.sc ⟨t3,t4,fcId.sh,true⟩) else none
theorem Psi_k97_ok:PsiOk Tryz.prog noU Psi_k97:=by
 intro k c h
 unfold Psi_k97 at h
 split at h
 ·cases h;subst_vars;exact ⟨spec_k44,fun _ _=>M.det_det⟩
 split at h
 ·cases h;subst_vars;exact ⟨spec_k59,fun _ _=>M.det_det⟩
 cases h
def ann_k97:Ann:=(.seq .leaf (.seq .leaf (.seq .leaf .leaf)))
theorem l_k97 (x):funI noU (tabT tab) noPhi Psi_k97 Tryz.f97 b_k97 ann_k97 (.prod t28 t39) t4 x=S_hire_isSlip fcWithin.sh fcId.sh x:=by kernel_rfl
theorem spec_k97:FnSpec Tryz.prog 97 (.prod t28 t39) t4 fcSlip.sh:=
 fn_ok mixOk tabOk noU_ok noPhi_ok Psi_k97_ok Tryz.func97 b_k97_ok (by kernel_rfl) fun x=>M.le_trans (M.le_of_eq (l_k97 x)) (sHSlip x)
def b_k96:Code:=Tryz.f96.body.getD .skip
theorem b_k96_ok:Tryz.f96.body=some b_k96:=by kernel_rfl
def Psi_k96 (k:Nat):Option KC:=if k=97 then some (.sc ⟨(.prod t28 t39),t4,fcSlip.sh,true⟩) else none
theorem Psi_k96_ok:PsiOk Tryz.prog noU Psi_k96:=by
 intro k c h
 unfold Psi_k96 at h
 split at h
 ·cases h;subst_vars;exact ⟨spec_k97,fun _ _=>M.det_det⟩
 cases h
def ann_k96:Ann:=(.seq .leaf (.seq .leaf .leaf))
theorem l_k96 (x):codeI noU (tabT tab) noPhi Psi_k96 ann_k96 b_k96 (capsSt 1 (parSt (.prod t39 (.ptr t28)) x)) (retI (tabT tab) Tryz.f96.results.toList t4)=S_hire_isCounter_c1 fcSlip.sh x:=by kernel_rfl
theorem spec_k96:FnSpec Tryz.prog 96 (.prod t39 (.ptr t28)) t4 fcSlipC.sh:=
 fnC_ok (n:=1) mixOk tabOk noU_ok noPhi_ok Psi_k96_ok Tryz.func96 b_k96_ok (by kernel_rfl) fun x=>M.le_req (fun h=>by obtain ⟨f,hf,_⟩:=h;exact caps_pre ⟨trivial,isSome_of hf⟩) (M.le_trans (M.le_of_eq (l_k96 x)) (sHWrong x))
def b_k98:Code:=Tryz.f98.body.getD .skip
theorem b_k98_ok:Tryz.f98.body=some b_k98:=by kernel_rfl
def Psi_k98 (k:Nat):Option KC:=if k=59 then some (.sc ⟨t3,t4,fcId.sh,true⟩) else none
theorem Psi_k98_ok:PsiOk Tryz.prog noU Psi_k98:=by
 intro k c h
 unfold Psi_k98 at h
 split at h
 ·cases h;subst_vars;exact ⟨spec_k59,fun _ _=>M.det_det⟩
 cases h
def ann_k98:Ann:=(.seq .leaf (.seq .leaf .leaf))
theorem l_k98 (x):funI noU (tabT tab) noPhi Psi_k98 Tryz.f98 b_k98 ann_k98 t3 t4 x=S_hire_isCounter_c2 fcId.sh x:=by kernel_rfl
theorem spec_k98:FnSpec Tryz.prog 98 t3 t4 fcIdN.sh:=
 fn_ok mixOk tabOk noU_ok noPhi_ok Psi_k98_ok Tryz.func98 b_k98_ok (by kernel_rfl) fun x=>M.le_trans (M.le_of_eq (l_k98 x)) (sHStrange x)
def b_k116:Code:=Tryz.f116.body.getD .skip
theorem b_k116_ok:Tryz.f116.body=some b_k116:=by kernel_rfl
def Psi_k116 (k:Nat):Option KC:=none
theorem Psi_k116_ok:PsiOk Tryz.prog noU Psi_k116:=by
 intro k c h
 unfold Psi_k116 at h
 cases h
def ann_k116:Ann:=(.seq .leaf (.join ⟨[],[]⟩ (.seq .leaf (.block (.loop ⟨[(0,.val t24),(1,.val t32),(7,.val t3),(8,.val t3)],[]⟩ (.seq .leaf (.seq (.cond .leaf .leaf) (.seq (.block (.seq .leaf (.seq .leaf (.cond (.seq .leaf .leaf) .leaf)))) .leaf)))))) (.seq .leaf .leaf)))
theorem l_k116 (x):funI noU (tabT tab) noPhi Psi_k116 Tryz.f116 b_k116 ann_k116 (.prod t24 t32) t3 x=S_slices_IndexFunc_int_int  x:=by kernel_rfl
theorem spec_k116:FnSpec Tryz.prog 116 (.prod t24 t32) t3 (fcIndexFunc tI).sh:=
 fn_ok mixOk tabOk noU_ok noPhi_ok Psi_k116_ok Tryz.func116 b_k116_ok (by kernel_rfl) fun x=>M.le_trans (M.le_of_eq (l_k116 x)) (sIndexFuncI x)
def b_k99:Code:=Tryz.f99.body.getD .skip
theorem b_k99_ok:Tryz.f99.body=some b_k99:=by kernel_rfl
def Psi_k99 (k:Nat):Option KC:=if k=116 then some (.sc ⟨(.prod t24 t32),t3,(fcIndexFunc tI).sh,true⟩) else none
theorem Psi_k99_ok:PsiOk Tryz.prog noU Psi_k99:=by
 intro k c h
 unfold Psi_k99 at h
 split at h
 ·cases h;subst_vars;exact ⟨spec_k116,fun _ _=>M.det_det⟩
 cases h
def ann_k99:Ann:=(.seq .leaf (.seq .leaf .leaf))
theorem l_k99 (x):funI noU (tabT tab) noPhi Psi_k99 Tryz.f99 b_k99 ann_k99 (.prod t24 t32) t4 x=S_slices_ContainsFunc_int_int (fcIndexFunc tI).sh x:=by kernel_rfl
theorem spec_k99:FnSpec Tryz.prog 99 (.prod t24 t32) t4 (fcContainsFunc tI).sh:=
 fn_ok mixOk tabOk noU_ok noPhi_ok Psi_k99_ok Tryz.func99 b_k99_ok (by kernel_rfl) fun x=>M.le_trans (M.le_of_eq (l_k99 x)) (sContainsFuncI x)
def b_k62:Code:=Tryz.f62.body.getD .skip
theorem b_k62_ok:Tryz.f62.body=some b_k62:=by kernel_rfl
def U_k62:FnTab:={ fnv:=fun k=>if k=98 then some ⟨t3,t4,fcIdN.sh⟩ else none,clv:=fun k=>if k=96 then some ⟨[t39],[t28],t4,fcSlipC.sh⟩ else none }
theorem U_k62_ok:FnTabOk Tryz.prog U_k62 where
 fnv:=by
  intro k v h
  simp only [U_k62] at h
  split at h
  ·cases h;subst_vars;exact spec_k98
  cases h
 clv:=by
  intro k v h
  simp only [U_k62] at h
  split at h
  ·cases h;subst_vars;exact ⟨rfl,spec_k96⟩
  cases h
def Psi_k62 (k:Nat):Option KC:=if k=44 then some (.sc ⟨(.prod t3 (.prod t3 t3)),t4,fcWithin.sh,true⟩) else if k=90 then some (.sc ⟨(.prod t23 t119),t4,(fcContainsFunc tSlip).sh,true⟩) else if k=95 then some (.sc ⟨t26,t4,fcTar.sh,true⟩) else if k=99 then some (.sc ⟨(.prod t24 t32),t4,(fcContainsFunc tI).sh,true⟩) else none
theorem Psi_k62_ok:PsiOk Tryz.prog U_k62 Psi_k62:=by
 intro k c h
 unfold Psi_k62 at h
 split at h
 ·cases h;subst_vars;exact ⟨spec_k44,fun _ _=>M.det_det⟩
 split at h
 ·cases h;subst_vars;exact ⟨spec_k90,fun _ _=>M.det_det⟩
 split at h
 ·cases h;subst_vars;exact ⟨spec_k95,fun _ _=>M.det_det⟩
 split at h
 ·cases h;subst_vars;exact ⟨spec_k99,fun _ _=>M.det_det⟩
 cases h
def ann_k62:Ann:=(.seq .leaf (.seq (.seq .leaf (.cond (.seq .leaf .leaf) .leaf)) (.join ⟨[(1,.loc 1 0)],[(1,.whole t28)]⟩ (.seq .leaf (.block (.loop ⟨[(1,.loc 1 0),(38,.val t22),(39,.val t3),(40,.val t3)],[(1,.whole t28)]⟩ (.seq .leaf (.seq (.cond .leaf .leaf) (.seq (.block (.seq .leaf (.seq .leaf (.cond (.seq .leaf .leaf) .leaf)))) .leaf)))))) (.join ⟨[(1,.loc 1 0)],[(1,.whole t28)]⟩ (.seq .leaf (.block (.loop ⟨[(1,.loc 1 0),(57,.val t22),(58,.val t3),(59,.val t3)],[(1,.whole t28)]⟩ (.seq .leaf (.seq (.cond .leaf .leaf) (.seq (.block (.seq .leaf (.seq .leaf (.cond (.seq .leaf .leaf) .leaf)))) .leaf)))))) (.seq .leaf (.seq .leaf (.seq .leaf .leaf)))))))
theorem l_k62 (x):funI U_k62 (tabT tab) noPhi Psi_k62 Tryz.f62 b_k62 ann_k62 t28 t4 x=S_hire_isCounter fcWithin.sh (fcContainsFunc tSlip).sh fcTar.sh (fcContainsFunc tI).sh fcSlipC.sh fcIdN.sh x:=by kernel_rfl
theorem spec_k62:FnSpec Tryz.prog 62 t28 t4 fcCounter.sh:=
 fn_ok mixOk tabOk U_k62_ok noPhi_ok Psi_k62_ok Tryz.func62 b_k62_ok (by kernel_rfl) fun x=>M.le_trans (M.le_of_eq (l_k62 x)) (sHCounter x)
def b_k139:Code:=Tryz.f139.body.getD .skip
theorem b_k139_ok:Tryz.f139.body=some b_k139:=by kernel_rfl
def Psi_k139 (k:Nat):Option KC:=none
theorem Psi_k139_ok:PsiOk Tryz.prog noU Psi_k139:=by
 intro k c h
 unfold Psi_k139 at h
 cases h
def ann_k139:Ann:=(.seq .leaf (.seq .leaf .leaf))
theorem l_k139 (x):funI noU (tabT tab) noPhi Psi_k139 Tryz.f139 b_k139 ann_k139 t3 t4 x=S_cmp_isNaN_int  x:=by kernel_rfl
theorem spec_k139:FnSpec Tryz.prog 139 t3 t4 fcNaN.sh:=
 fn_ok mixOk tabOk noU_ok noPhi_ok Psi_k139_ok Tryz.func139 b_k139_ok (by kernel_rfl) fun x=>M.le_trans (M.le_of_eq (l_k139 x)) (sNaN x)
def b_k125:Code:=Tryz.f125.body.getD .skip
theorem b_k125_ok:Tryz.f125.body=some b_k125:=by kernel_rfl
def Psi_k125 (k:Nat):Option KC:=if k=139 then some (.sc ⟨t3,t4,fcNaN.sh,true⟩) else none
theorem Psi_k125_ok:PsiOk Tryz.prog noU Psi_k125:=by
 intro k c h
 unfold Psi_k125 at h
 split at h
 ·cases h;subst_vars;exact ⟨spec_k139,fun _ _=>M.det_det⟩
 cases h
def ann_k125:Ann:=(.seq .leaf (.seq .leaf .leaf))
theorem l_k125 (x):funI noU (tabT tab) noPhi Psi_k125 Tryz.f125 b_k125 ann_k125 (.prod t3 t3) t4 x=S_cmp_Less_int fcNaN.sh x:=by kernel_rfl
theorem spec_k125:FnSpec Tryz.prog 125 (.prod t3 t3) t4 fcLess.sh:=
 fn_ok mixOk tabOk noU_ok noPhi_ok Psi_k125_ok Tryz.func125 b_k125_ok (by kernel_rfl) fun x=>M.le_trans (M.le_of_eq (l_k125 x)) (sLess x)
def b_kins:Code:=Tryz.f119.body.getD .skip
theorem b_kins_ok:Tryz.f119.body=some b_kins:=by kernel_rfl
def Psi_kins (k:Nat):Option KC:=if k=125 then some (.sc ⟨(.prod t3 t3),t4,fcLess.sh,true⟩) else none
theorem Psi_kins_ok:PsiOk Tryz.prog noU Psi_kins:=by
 intro k c h
 unfold Psi_kins at h
 split at h
 ·cases h;subst_vars;exact ⟨spec_k125,fun _ _=>M.det_det⟩
 cases h
def ioc_ins:IOC:=⟨⟨[(0,.own 200001),(1,.val t3),(2,.val t3)],[(200001,.arr t3)]⟩,⟨[],[(200001,.arr t3)]⟩,[],3,shInsI⟩
def ann_kins:Ann:=(.seq .leaf (.block (.loop ⟨[(0,.own 200001),(1,.val t3),(2,.val t3),(6,.val t3)],[(200001,.arr t3)]⟩ (.seq (.seq .leaf (.cond .leaf .leaf)) (.join ⟨[(0,.own 200001),(1,.val t3),(2,.val t3),(6,.val t3)],[(200001,.arr t3)]⟩ (.block (.seq .leaf (.block (.loop ⟨[(0,.own 200001),(1,.val t3),(2,.val t3),(6,.val t3),(7,.val t3)],[(200001,.arr t3)]⟩ (.seq (.seq .leaf (.cond .leaf .leaf)) (.seq (.block .leaf) .leaf)))))) .leaf)))))
theorem l_kins (x):funIO noU (tabT tab) noPhi Psi_kins Tryz.f119 b_kins ann_kins ⟨[(0,.own 200001),(1,.val t3),(2,.val t3)],[(200001,.arr t3)]⟩ ⟨[],[(200001,.arr t3)]⟩ [] x=S_slices_insSort fcLess.sh x:=by kernel_rfl
theorem io_ins:IoSpec Tryz.prog noU 119 ioc_ins:=
 fnIO_ok mixOk tabOk noPhi_ok Psi_kins_ok Tryz.func119 b_kins_ok (by kernel_rfl) fun x=>M.le_trans (M.le_of_eq (l_kins x)) (sInsI x)
def b_kpdq:Code:=Tryz.f110.body.getD .skip
theorem b_kpdq_ok:Tryz.f110.body=some b_kpdq:=by kernel_rfl
def Psi_kpdq (k:Nat):Option KC:=if k=119 then some (.io ioc_ins) else none
theorem Psi_kpdq_ok:PsiOk Tryz.prog noU Psi_kpdq:=by
 intro k c h
 unfold Psi_kpdq at h
 split at h
 ·cases h;subst_vars;exact io_ins
 cases h
def ioc_pdq:IOC:=⟨⟨[(0,.own 200001),(1,.val t3),(2,.val t3),(3,.val t3)],[(200001,.arr t3)]⟩,⟨[],[(200001,.arr t3)]⟩,[],4,shPdqI⟩
def ann_kpdq:Ann:=(.seq .leaf (.seq .leaf (.block (.loop ⟨[(0,.own 200001),(1,.val t3),(2,.val t3),(3,.val t3),(8,.val t4),(9,.val t4)],[(200001,.arr t3)]⟩ (.block (.seq .leaf (.seq (.seq .leaf (.cond (.seq .leaf .leaf) .leaf)) .leaf)))))))
theorem l_kpdq (x):funIO noU (tabT tab) noPhi Psi_kpdq Tryz.f110 b_kpdq ann_kpdq ⟨[(0,.own 200001),(1,.val t3),(2,.val t3),(3,.val t3)],[(200001,.arr t3)]⟩ ⟨[],[(200001,.arr t3)]⟩ [] x=S_slices_pdqsort shInsI x:=by kernel_rfl
theorem io_pdq:IoSpec Tryz.prog noU 110 ioc_pdq:=
 fnIO_ok mixOk tabOk noPhi_ok Psi_kpdq_ok Tryz.func110 b_kpdq_ok (by kernel_rfl) fun x=>M.le_trans (M.le_of_eq (l_kpdq x)) (sPdqI x)
def b_k129:Code:=Tryz.f129.body.getD .skip
theorem b_k129_ok:Tryz.f129.body=some b_k129:=by kernel_rfl
def Psi_k129 (k:Nat):Option KC:=none
theorem Psi_k129_ok:PsiOk Tryz.prog noU Psi_k129:=by
 intro k c h
 unfold Psi_k129 at h
 cases h
def ann_k129:Ann:=(.seq .leaf (.join ⟨[(0,.val t141),(2,.val t3)],[]⟩ (.seq .leaf (.cond (.seq .leaf .leaf) .leaf)) (.join ⟨[(0,.val t141),(2,.val t3)],[]⟩ (.seq .leaf (.cond (.seq .leaf .leaf) .leaf)) (.join ⟨[(0,.val t141),(2,.val t3)],[]⟩ (.seq .leaf (.cond (.seq .leaf .leaf) .leaf)) (.seq .leaf .leaf)))))
theorem l_k129 (x):funI noU (tabT tab) noPhi Psi_k129 Tryz.f129 b_k129 ann_k129 t160 t3 x=S_math_bits_Len64  x:=by kernel_rfl
theorem spec_k129:FnSpec Tryz.prog 129 t160 t3 fcLen64.sh:=
 fn_ok mixOk tabOk noU_ok noPhi_ok Psi_k129_ok Tryz.func129 b_k129_ok (by kernel_rfl) fun x=>M.le_trans (M.le_of_eq (l_k129 x)) (sLen64 x)
def b_k111:Code:=Tryz.f111.body.getD .skip
theorem b_k111_ok:Tryz.f111.body=some b_k111:=by kernel_rfl
def Psi_k111 (k:Nat):Option KC:=if k=129 then some (.sc ⟨t160,t3,fcLen64.sh,true⟩) else none
theorem Psi_k111_ok:PsiOk Tryz.prog noU Psi_k111:=by
 intro k c h
 unfold Psi_k111 at h
 split at h
 ·cases h;subst_vars;exact ⟨spec_k129,fun _ _=>M.det_det⟩
 cases h
def ann_k111:Ann:=(.seq .leaf (.seq (.cond (.seq .leaf .leaf) .leaf) (.seq .leaf .leaf)))
theorem l_k111 (x):funI noU (tabT tab) noPhi Psi_k111 Tryz.f111 b_k111 ann_k111 t141 t3 x=S_math_bits_Len (fun _=>M.fail) fcLen64.sh x:=by kernel_rfl
theorem spec_k111:FnSpec Tryz.prog 111 t141 t3 fcLen.sh:=
 fn_ok mixOk tabOk noU_ok noPhi_ok Psi_k111_ok Tryz.func111 b_k111_ok (by kernel_rfl) fun x=>M.le_trans (M.le_of_eq (l_k111 x)) (sLen (fun _=>M.fail) x)
def b_ksort:Code:=Tryz.f80.body.getD .skip
theorem b_ksort_ok:Tryz.f80.body=some b_ksort:=by kernel_rfl
def Psi_ksort (k:Nat):Option KC:=if k=110 then some (.io ioc_pdq) else if k=111 then some (.sc ⟨t141,t3,fcLen.sh,true⟩) else none
theorem Psi_ksort_ok:PsiOk Tryz.prog noU Psi_ksort:=by
 intro k c h
 unfold Psi_ksort at h
 split at h
 ·cases h;subst_vars;exact io_pdq
 split at h
 ·cases h;subst_vars;exact ⟨spec_k111,fun _ _=>M.det_det⟩
 cases h
def ioc_sort:IOC:=⟨⟨[(0,.own 200001)],[(200001,.arr t3)]⟩,⟨[],[(200001,.arr t3)]⟩,[],1,shSortI⟩
def ann_ksort:Ann:=(.seq .leaf .leaf)
theorem l_ksort (x):funIO noU (tabT tab) noPhi Psi_ksort Tryz.f80 b_ksort ann_ksort ⟨[(0,.own 200001)],[(200001,.arr t3)]⟩ ⟨[],[(200001,.arr t3)]⟩ [] x=S_slices_Sort shPdqI fcLen.sh x:=by kernel_rfl
theorem io_sort:IoSpec Tryz.prog noU 80 ioc_sort:=
 fnIO_ok mixOk tabOk noPhi_ok Psi_ksort_ok Tryz.func80 b_ksort_ok (by kernel_rfl) fun x=>M.le_trans (M.le_of_eq (l_ksort x)) (sSortI x)
def b_kappseq:Code:=Tryz.f115.body.getD .skip
theorem b_kappseq_ok:Tryz.f115.body=some b_kappseq:=by kernel_rfl
def Psi_kappseq (k:Nat):Option KC:=none
theorem Psi_kappseq_ok:PsiOk Tryz.prog noU Psi_kappseq:=by
 intro k c h
 unfold Psi_kappseq at h
 cases h
def ioc_appseq:IOC:=⟨⟨[(0,.nils),(1,.val t87)],[]⟩,⟨[(0,.own 50000)],[(50000,.arr t3)]⟩,[none],2,shSeq⟩
def ann_kappseq:Ann:=(.seq .leaf (.seq (.seq .leaf (.block (.range ⟨[(2,.loc 2 0)],[(2,.cells t24 [.own 50000]),(50000,.arr t3)]⟩ ⟨[(2,.loc 100002 0),(7,.val t3)],[(100002,.cells t24 [.own 150000]),(150000,.arr t3)]⟩ ⟨[],[(100002,.cells t24 [.own 150000]),(150000,.arr t3)]⟩ .leaf (.block .leaf)))) (.seq .leaf .leaf)))
theorem l_kappseq (x):funIO noU (tabT tab) noPhi Psi_kappseq Tryz.f115 b_kappseq ann_kappseq ⟨[(0,.nils),(1,.val t87)],[]⟩ ⟨[(0,.own 50000)],[(50000,.arr t3)]⟩ [none] x=S_slices_AppendSeq  x:=by kernel_rfl
theorem io_appseq:IoSpec Tryz.prog noU 115 ioc_appseq:=
 fnIO_ok mixOk tabOk noPhi_ok Psi_kappseq_ok Tryz.func115 b_kappseq_ok (by kernel_rfl) fun x=>M.le_trans (M.le_of_eq (l_kappseq x)) (sAppSeq x)
def b_kcollect:Code:=Tryz.f87.body.getD .skip
theorem b_kcollect_ok:Tryz.f87.body=some b_kcollect:=by kernel_rfl
def Psi_kcollect (k:Nat):Option KC:=if k=115 then some (.io ioc_appseq) else none
theorem Psi_kcollect_ok:PsiOk Tryz.prog noU Psi_kcollect:=by
 intro k c h
 unfold Psi_kcollect at h
 split at h
 ·cases h;subst_vars;exact io_appseq
 cases h
def ioc_collect:IOC:=⟨⟨[(0,.val t87)],[]⟩,⟨[(0,.own 50040)],[(50040,.arr t3)]⟩,[none],1,shSeq⟩
def ann_kcollect:Ann:=(.seq .leaf (.seq .leaf .leaf))
theorem l_kcollect (x):funIO noU (tabT tab) noPhi Psi_kcollect Tryz.f87 b_kcollect ann_kcollect ⟨[(0,.val t87)],[]⟩ ⟨[(0,.own 50040)],[(50040,.arr t3)]⟩ [none] x=S_slices_Collect shSeq x:=by kernel_rfl
theorem io_collect:IoSpec Tryz.prog noU 87 ioc_collect:=
 fnIO_ok mixOk tabOk noPhi_ok Psi_kcollect_ok Tryz.func87 b_kcollect_ok (by kernel_rfl) fun x=>M.le_trans (M.le_of_eq (l_kcollect x)) (sCollect x)
def b_k47:Code:=Tryz.f47.body.getD .skip
theorem b_k47_ok:Tryz.f47.body=some b_k47:=by kernel_rfl
def Psi_k47 (k:Nat):Option KC:=if k=80 then some (.io ioc_sort) else if k=87 then some (.io ioc_collect) else none
theorem Psi_k47_ok:PsiOk Tryz.prog noU Psi_k47:=by
 intro k c h
 unfold Psi_k47 at h
 split at h
 ·cases h;subst_vars;exact io_sort
 split at h
 ·cases h;subst_vars;exact io_collect
 cases h
def ann_k47:Ann:=(.seq .leaf (.seq .leaf (.seq .leaf (.seq .leaf .leaf))))
theorem l_k47 (x):funI noU (tabT tab) noPhi Psi_k47 Tryz.f47 b_k47 ann_k47 t87 t24 x=S_slices_Sorted_int shSortI shSeq x:=by kernel_rfl
theorem spec_k47:FnSpec Tryz.prog 47 t87 t24 fcSorted.sh:=
 fn_ok mixOk tabOk noU_ok noPhi_ok Psi_k47_ok Tryz.func47 b_k47_ok (by kernel_rfl) fun x=>M.le_trans (M.le_of_eq (l_k47 x)) (sSorted x)
def b_kkeysS:Code:=Tryz.f117.body.getD .skip
theorem b_kkeysS_ok:Tryz.f117.body=some b_kkeysS:=by kernel_rfl
def Psi_kkeysS (k:Nat):Option KC:=none
theorem Psi_kkeysS_ok:PsiOk Tryz.prog noU Psi_kkeysS:=by
 intro k c h
 unfold Psi_kkeysS at h
 cases h
def ioc_keysS:IOC:=⟨⟨[(0,.yld),(1,.pp t127),(1000000,.tr t3)],[]⟩,⟨[(1000000,.tr t3)],[]⟩,[],2,S_maps_KeysS⟩
def ann_kkeysS:Ann:=(.seq .leaf (.block (.loop ⟨[(0,.yld),(5,.iter 5),(1000000,.tr t3)],[(5,.it t3 t39)]⟩ (.seq .leaf (.seq (.cond .leaf .leaf) (.block (.seq .leaf (.seq .leaf (.cond .leaf .leaf)))))))))
theorem l_kkeysS (x):funIO noU (tabT tab) noPhi Psi_kkeysS Tryz.f117 b_kkeysS ann_kkeysS ⟨[(0,.yld),(1,.pp t127),(1000000,.tr t3)],[]⟩ ⟨[(1000000,.tr t3)],[]⟩ [] x=S_maps_KeysS  x:=by kernel_rfl
theorem io_keysS:IoSpec Tryz.prog noU 117 ioc_keysS:=
 fnIO_ok mixOk tabOk noPhi_ok Psi_kkeysS_ok Tryz.func117 b_kkeysS_ok (by kernel_rfl) fun x=>M.le_trans (M.le_of_eq (l_kkeysS x)) (M.le_refl <| S_maps_KeysS x)
theorem cit_117:CItSpec Tryz.prog 117 ⟨[t127],t3,keysS⟩:=cit_of_io (c:=ioc_keysS) io_keysS noU_ok (fun x l L=>(l,x.getD [],(l,L,[],false),())) rfl (by decide) (by simp [tupT])
 (fun x l L i hx=>by
  obtain ⟨T,hT⟩:=hx
  obtain ⟨m,hm,_⟩:=hT
  subst hm
  by_cases h0:i=0
  ·subst h0;exact .inr (.inr (.inl ⟨rfl,rfl⟩))
  ·by_cases h1:i=1
   ·subst h1;exact .inr (.inl ⟨by decide,by decide,_,_,rfl,rfl⟩)
   by_cases h2:i=TRS
   ·subst h2;exact .inr (.inr (.inr ⟨rfl,rfl⟩))
   ·refine .inl ?_
    exact (if_neg h0).trans ((if_neg h1).trans (if_neg h2)))
 rfl (fun τ=>⟨_,_,_,_,rfl⟩) (fun x l hx=>by
  obtain ⟨T,hT⟩:=hx
  obtain ⟨m,hm,_⟩:=hT
  subst hm
  have h:=sKeysIOS l m
  refine ⟨h.1,fun τ hτ l' L' p hsl=>?_⟩
  have e:AV.tr τ.1.1 t3 τ.1.2.1 τ.1.2.2.1 τ.1.2.2.2=.tr l' t3 L' p false:=hsl
  injection e with e1 e2 e3 e4 e5
  rw [←e4]
  exact h.2 τ hτ e5)
def b_k100:Code:=Tryz.f100.body.getD .skip
theorem b_k100_ok:Tryz.f100.body=some b_k100:=by kernel_rfl
def U_k100:FnTab:={ fnv:=fun k=>none,clv:=fun k=>none,itv:=fun k=>if k=117 then some ⟨[t127],t3,keysS⟩ else none }
theorem U_k100_ok:FnTabOk Tryz.prog U_k100 where
 fnv:=by
  intro k v h
  simp only [U_k100] at h
  cases h
 clv:=by
  intro k v h
  simp only [U_k100] at h
  cases h
 itv:=by
  intro k v h
  simp only [U_k100] at h
  split at h
  ·cases h;subst_vars;exact cit_117
  cases h
def Psi_k100 (k:Nat):Option KC:=none
theorem Psi_k100_ok:PsiOk Tryz.prog U_k100 Psi_k100:=by
 intro k c h
 unfold Psi_k100 at h
 cases h
def ann_k100:Ann:=(.seq .leaf (.seq .leaf .leaf))
theorem l_k100 (x):funI U_k100 (tabT tab) noPhi Psi_k100 Tryz.f100 b_k100 ann_k100 t127 t87 x=S_maps_Keys_map_int_api_Slip_int_api_Slip keysS x:=by kernel_rfl
theorem spec_k100:FnSpec Tryz.prog 100 t127 t87 fcKeysS.sh:=
 fn_ok mixOk tabOk U_k100_ok noPhi_ok Psi_k100_ok Tryz.func100 b_k100_ok (by kernel_rfl) fun x=>M.le_trans (M.le_of_eq (l_k100 x)) (sKeysS x)
def b_k63:Code:=Tryz.f63.body.getD .skip
theorem b_k63_ok:Tryz.f63.body=some b_k63:=by kernel_rfl
def Psi_k63 (k:Nat):Option KC:=if k=47 then some (.sc ⟨t87,t24,fcSorted.sh,true⟩) else if k=100 then some (.sc ⟨t127,t87,fcKeysS.sh,true⟩) else none
theorem Psi_k63_ok:PsiOk Tryz.prog noU Psi_k63:=by
 intro k c h
 unfold Psi_k63 at h
 split at h
 ·cases h;subst_vars;exact ⟨spec_k47,fun _ _=>M.det_det⟩
 split at h
 ·cases h;subst_vars;exact ⟨spec_k100,fun _ _=>M.det_det⟩
 cases h
def ann_k63:Ann:=(.seq .leaf (.seq .leaf (.join ⟨[(4,.mapl 12)],[(12,.mp t3 t39)]⟩ (.seq .leaf (.block (.loop ⟨[(4,.mapl 12),(13,.val t23),(14,.val t3),(15,.val t3)],[(12,.mp t3 t39)]⟩ (.seq .leaf (.seq (.cond .leaf .leaf) (.seq (.block (.seq .leaf (.seq (.seq .leaf (.seq .leaf (.cond (.seq .leaf .leaf) .leaf))) .leaf))) .leaf)))))) (.seq .leaf (.join ⟨[(9,.own 9)],[(9,.arr t39)]⟩ (.seq .leaf (.block (.loop ⟨[(4,.mapl 12),(9,.own 9),(39,.val t24),(40,.val t3),(41,.val t3)],[(9,.arr t39),(12,.frzm t3 t39)]⟩ (.seq .leaf (.seq (.cond .leaf .leaf) (.seq (.block (.seq .leaf .leaf)) .leaf)))))) (.seq .leaf .leaf))))))
theorem l_k63 (x):funI noU (tabT tab) noPhi Psi_k63 Tryz.f63 b_k63 ann_k63 t23 (.prod t23 t4) x=S_hire_once fcSorted.sh fcKeysS.sh x:=by kernel_rfl
theorem spec_k63:FnSpec Tryz.prog 63 t23 (.prod t23 t4) fcOnceH.sh:=
 fn_ok mixOk tabOk noU_ok noPhi_ok Psi_k63_ok Tryz.func63 b_k63_ok (by kernel_rfl) fun x=>M.le_trans (M.le_of_eq (l_k63 x)) (sOnceH x)
def b_k26:Code:=Tryz.f26.body.getD .skip
theorem b_k26_ok:Tryz.f26.body=some b_k26:=by kernel_rfl
def Psi_k26 (k:Nat):Option KC:=if k=62 then some (.sc ⟨t28,t4,fcCounter.sh,true⟩) else if k=63 then some (.sc ⟨t23,(.prod t23 t4),fcOnceH.sh,true⟩) else none
theorem Psi_k26_ok:PsiOk Tryz.prog noU Psi_k26:=by
 intro k c h
 unfold Psi_k26 at h
 split at h
 ·cases h;subst_vars;exact ⟨spec_k62,fun _ _=>M.det_det⟩
 split at h
 ·cases h;subst_vars;exact ⟨spec_k63,fun _ _=>M.det_det⟩
 cases h
def ann_k26:Ann:=(.seq .leaf (.seq (.seq .leaf (.cond (.seq .leaf .leaf) .leaf)) (.seq (.seq .leaf (.seq .leaf (.cond (.seq .leaf .leaf) .leaf))) (.seq .leaf .leaf))))
theorem l_k26 (x):funI noU (tabT tab) noPhi Psi_k26 Tryz.f26 b_k26 ann_k26 t28 t34 x=S_hire_Check fcCounter.sh fcOnceH.sh x:=by kernel_rfl
theorem spec_k26:FnSpec Tryz.prog 26 t28 t34 fcCheck.sh:=
 fn_ok mixOk tabOk noU_ok noPhi_ok Psi_k26_ok Tryz.func26 b_k26_ok (by kernel_rfl) fun x=>M.le_trans (M.le_of_eq (l_k26 x)) (sHCheck x)
def b_konce:Code:=Tryz.f63.body.getD .skip
theorem b_konce_ok:Tryz.f63.body=some b_konce:=by kernel_rfl
def U_k42:FnTab:={ fnv:=fun k=>if k=132 then some ⟨(.prod t82 t82),t3,fcCmpE.sh⟩ else none,clv:=fun k=>if k=84 then some ⟨[t39],[t28],t4,fcVoid.sh⟩ else none }
def Psi_konce (k:Nat):Option KC:=if k=47 then some (.sc ⟨t87,t24,fcSorted.sh,true⟩) else if k=100 then some (.sc ⟨t127,t87,fcKeysS.sh,true⟩) else none
theorem Psi_konce_ok:PsiOk Tryz.prog U_k42 Psi_konce:=by
 intro k c h
 unfold Psi_konce at h
 split at h
 ·cases h;subst_vars;exact ⟨spec_k47,fun _ _=>M.det_det⟩
 split at h
 ·cases h;subst_vars;exact ⟨spec_k100,fun _ _=>M.det_det⟩
 cases h
def ioc_once:IOC:=⟨⟨[(0,.val t23)],[]⟩,⟨[(0,.own 9),(1,.val t4)],[(9,.arr t39)]⟩,[none,none],1,shOnceIO⟩
def ann_konce:Ann:=(.seq .leaf (.seq .leaf (.join ⟨[(4,.mapl 12)],[(12,.mp t3 t39)]⟩ (.seq .leaf (.block (.loop ⟨[(4,.mapl 12),(13,.val t23),(14,.val t3),(15,.val t3)],[(12,.mp t3 t39)]⟩ (.seq .leaf (.seq (.cond .leaf .leaf) (.seq (.block (.seq .leaf (.seq (.seq .leaf (.seq .leaf (.cond (.seq .leaf .leaf) .leaf))) .leaf))) .leaf)))))) (.seq .leaf (.join ⟨[(9,.own 9)],[(9,.arr t39)]⟩ (.seq .leaf (.block (.loop ⟨[(4,.mapl 12),(9,.own 9),(39,.val t24),(40,.val t3),(41,.val t3)],[(9,.arr t39),(12,.frzm t3 t39)]⟩ (.seq .leaf (.seq (.cond .leaf .leaf) (.seq (.block (.seq .leaf .leaf)) .leaf)))))) (.seq .leaf .leaf))))))
theorem l_konce (x):funIO U_k42 (tabT tab) noPhi Psi_konce Tryz.f63 b_konce ann_konce ⟨[(0,.val t23)],[]⟩ ⟨[(0,.own 9),(1,.val t4)],[(9,.arr t39)]⟩ [none,none] x=S_hire_onceIO fcSorted.sh fcKeysS.sh x:=by kernel_rfl
theorem io_once:IoSpec Tryz.prog U_k42 63 ioc_once:=
 fnIO_ok mixOk tabOk noPhi_ok Psi_konce_ok Tryz.func63 b_konce_ok (by kernel_rfl) fun x=>M.le_trans (M.le_of_eq (l_konce x)) (sOnceIO x)
def b_kdelfunc:Code:=Tryz.f83.body.getD .skip
theorem b_kdelfunc_ok:Tryz.f83.body=some b_kdelfunc:=by kernel_rfl
def Psi_kdelfunc (k:Nat):Option KC:=if k=112 then some (.sc ⟨(.prod t23 t119),t3,(fcIndexFunc tSlip).sh,true⟩) else none
theorem Psi_kdelfunc_ok:PsiOk Tryz.prog U_k42 Psi_kdelfunc:=by
 intro k c h
 unfold Psi_kdelfunc at h
 split at h
 ·cases h;subst_vars;exact ⟨spec_k112,fun _ _=>M.det_det⟩
 cases h
def ioc_delfunc:IOC:=⟨⟨[(0,.own 200001),(1,.val t119)],[(200001,.arr t39)]⟩,⟨[(0,.sub 200001)],[(200001,.arr t39)]⟩,[none],2,shDel⟩
def ann_kdelfunc:Ann:=(.seq .leaf (.seq .leaf (.seq (.seq .leaf (.cond (.seq .leaf .leaf) .leaf)) (.join ⟨[(0,.own 200001),(5,.val t3)],[(200001,.arr t39)]⟩ (.seq .leaf (.block (.loop ⟨[(0,.own 200001),(1,.val t119),(5,.val t3),(6,.val t3)],[(200001,.arr t39)]⟩ (.seq (.seq .leaf (.cond .leaf .leaf)) (.join ⟨[(0,.own 200001),(1,.val t119),(5,.val t3),(6,.val t3)],[(200001,.arr t39)]⟩ (.block (.seq .leaf (.seq .leaf (.cond (.seq .leaf .leaf) .leaf)))) .leaf))))) (.seq .leaf (.seq .leaf .leaf))))))
theorem l_kdelfunc (x):funIO U_k42 (tabT tab) noPhi Psi_kdelfunc Tryz.f83 b_kdelfunc ann_kdelfunc ⟨[(0,.own 200001),(1,.val t119)],[(200001,.arr t39)]⟩ ⟨[(0,.sub 200001)],[(200001,.arr t39)]⟩ [none] x=S_slices_DeleteFunc (fcIndexFunc tSlip).sh x:=by kernel_rfl
theorem io_delfunc:IoSpec Tryz.prog U_k42 83 ioc_delfunc:=
 fnIO_ok mixOk tabOk noPhi_ok Psi_kdelfunc_ok Tryz.func83 b_kdelfunc_ok (by kernel_rfl) fun x=>M.le_trans (M.le_of_eq (l_kdelfunc x)) (sDel x)
def b_k113:Code:=Tryz.f113.body.getD .skip
theorem b_k113_ok:Tryz.f113.body=some b_k113:=by kernel_rfl
def Psi_k113 (k:Nat):Option KC:=none
theorem Psi_k113_ok:PsiOk Tryz.prog noU Psi_k113:=by
 intro k c h
 unfold Psi_k113 at h
 cases h
def ann_k113:Ann:=(.seq .leaf (.join ⟨[],[]⟩ (.seq .leaf (.block (.loop ⟨[(0,.val t24),(1,.val t3),(7,.val t3),(8,.val t3)],[]⟩ (.seq .leaf (.seq (.cond .leaf .leaf) (.seq (.block (.seq .leaf (.seq .leaf (.cond (.seq .leaf .leaf) .leaf)))) .leaf)))))) (.seq .leaf .leaf)))
theorem l_k113 (x):funI noU (tabT tab) noPhi Psi_k113 Tryz.f113 b_k113 ann_k113 (.prod t24 t3) t3 x=S_slices_Index_int_int  x:=by kernel_rfl
theorem spec_k113:FnSpec Tryz.prog 113 (.prod t24 t3) t3 fcIndex.sh:=
 fn_ok mixOk tabOk noU_ok noPhi_ok Psi_k113_ok Tryz.func113 b_k113_ok (by kernel_rfl) fun x=>M.le_trans (M.le_of_eq (l_k113 x)) (sIndex x)
def b_k85:Code:=Tryz.f85.body.getD .skip
theorem b_k85_ok:Tryz.f85.body=some b_k85:=by kernel_rfl
def Psi_k85 (k:Nat):Option KC:=if k=113 then some (.sc ⟨(.prod t24 t3),t3,fcIndex.sh,true⟩) else none
theorem Psi_k85_ok:PsiOk Tryz.prog noU Psi_k85:=by
 intro k c h
 unfold Psi_k85 at h
 split at h
 ·cases h;subst_vars;exact ⟨spec_k113,fun _ _=>M.det_det⟩
 cases h
def ann_k85:Ann:=(.seq .leaf (.seq .leaf .leaf))
theorem l_k85 (x):funI noU (tabT tab) noPhi Psi_k85 Tryz.f85 b_k85 ann_k85 (.prod t24 t3) t4 x=S_slices_Contains_int_int fcIndex.sh x:=by kernel_rfl
theorem spec_k85:FnSpec Tryz.prog 85 (.prod t24 t3) t4 fcIn.sh:=
 fn_ok mixOk tabOk noU_ok noPhi_ok Psi_k85_ok Tryz.func85 b_k85_ok (by kernel_rfl) fun x=>M.le_trans (M.le_of_eq (l_k85 x)) (sContains x)
def b_k84:Code:=Tryz.f84.body.getD .skip
theorem b_k84_ok:Tryz.f84.body=some b_k84:=by kernel_rfl
def Psi_k84 (k:Nat):Option KC:=if k=85 then some (.sc ⟨(.prod t24 t3),t4,fcIn.sh,true⟩) else none
theorem Psi_k84_ok:PsiOk Tryz.prog noU Psi_k84:=by
 intro k c h
 unfold Psi_k84 at h
 split at h
 ·cases h;subst_vars;exact ⟨spec_k85,fun _ _=>M.det_det⟩
 cases h
def ann_k84:Ann:=(.seq .leaf (.seq .leaf .leaf))
theorem l_k84 (x):codeI noU (tabT tab) noPhi Psi_k84 ann_k84 b_k84 (capsSt 1 (parSt (.prod t39 (.ptr t28)) x)) (retI (tabT tab) Tryz.f84.results.toList t4)=S_hire_read_c1 fcIn.sh x:=by kernel_rfl
theorem spec_k84:FnSpec Tryz.prog 84 (.prod t39 (.ptr t28)) t4 fcVoid.sh:=
 fnC_ok (n:=1) mixOk tabOk noU_ok noPhi_ok Psi_k84_ok Tryz.func84 b_k84_ok (by kernel_rfl) fun x=>M.le_req (fun h=>by obtain ⟨f,hf,_⟩:=h;exact caps_pre ⟨trivial,isSome_of hf⟩) (M.le_trans (M.le_of_eq (l_k84 x)) (sVoid x))
def b_k130:Code:=Tryz.f130.body.getD .skip
theorem b_k130_ok:Tryz.f130.body=some b_k130:=by kernel_rfl
def Psi_k130 (k:Nat):Option KC:=none
theorem Psi_k130_ok:PsiOk Tryz.prog noU Psi_k130:=by
 intro k c h
 unfold Psi_k130 at h
 cases h
def ann_k130:Ann:=(.seq .leaf (.seq (.seq .leaf (.cond (.seq .leaf .leaf) .leaf)) (.seq .leaf .leaf)))
theorem l_k130 (x):funI noU (tabT tab) noPhi Psi_k130 Tryz.f130 b_k130 ann_k130 t24 t24 x=S_slices_Clone_int_int  x:=by kernel_rfl
theorem spec_k130:FnSpec Tryz.prog 130 t24 t24 fcClone.sh:=
 fn_ok mixOk tabOk noU_ok noPhi_ok Psi_k130_ok Tryz.func130 b_k130_ok (by kernel_rfl) fun x=>M.le_trans (M.le_of_eq (l_k130 x)) (sClone x)
def b_kinsf:Code:=Tryz.f142.body.getD .skip
theorem b_kinsf_ok:Tryz.f142.body=some b_kinsf:=by kernel_rfl
def Psi_kinsf (k:Nat):Option KC:=none
theorem Psi_kinsf_ok:PsiOk Tryz.prog U_k42 Psi_kinsf:=by
 intro k c h
 unfold Psi_kinsf at h
 cases h
def ioc_insf:IOC:=⟨⟨[(0,.own 200001),(1,.val t3),(2,.val t3),(3,.val t163)],[(200001,.arr t82)]⟩,⟨[],[(200001,.arr t82)]⟩,[],4,shInsE⟩
def ann_kinsf:Ann:=(.seq .leaf (.block (.loop ⟨[(0,.own 200001),(1,.val t3),(2,.val t3),(3,.val t163),(8,.val t3)],[(200001,.arr t82)]⟩ (.seq (.seq .leaf (.cond .leaf .leaf)) (.join ⟨[(0,.own 200001),(1,.val t3),(2,.val t3),(3,.val t163),(8,.val t3)],[(200001,.arr t82)]⟩ (.block (.seq .leaf (.block (.loop ⟨[(0,.own 200001),(1,.val t3),(2,.val t3),(3,.val t163),(8,.val t3),(9,.val t3)],[(200001,.arr t82)]⟩ (.seq (.seq .leaf (.cond .leaf .leaf)) (.seq (.block .leaf) .leaf)))))) .leaf)))))
theorem l_kinsf (x):funIO U_k42 (tabT tab) noPhi Psi_kinsf Tryz.f142 b_kinsf ann_kinsf ⟨[(0,.own 200001),(1,.val t3),(2,.val t3),(3,.val t163)],[(200001,.arr t82)]⟩ ⟨[],[(200001,.arr t82)]⟩ [] x=S_slices_insSortF  x:=by kernel_rfl
theorem io_insf:IoSpec Tryz.prog U_k42 142 ioc_insf:=
 fnIO_ok mixOk tabOk noPhi_ok Psi_kinsf_ok Tryz.func142 b_kinsf_ok (by kernel_rfl) fun x=>M.le_trans (M.le_of_eq (l_kinsf x)) (sInsE x)
def b_kpdqf:Code:=Tryz.f140.body.getD .skip
theorem b_kpdqf_ok:Tryz.f140.body=some b_kpdqf:=by kernel_rfl
def Psi_kpdqf (k:Nat):Option KC:=if k=142 then some (.io ioc_insf) else none
theorem Psi_kpdqf_ok:PsiOk Tryz.prog U_k42 Psi_kpdqf:=by
 intro k c h
 unfold Psi_kpdqf at h
 split at h
 ·cases h;subst_vars;exact io_insf
 cases h
def ioc_pdqf:IOC:=⟨⟨[(0,.own 200001),(1,.val t3),(2,.val t3),(3,.val t3),(4,.val t163)],[(200001,.arr t82)]⟩,⟨[],[(200001,.arr t82)]⟩,[],5,shPdqE⟩
def ann_kpdqf:Ann:=(.seq .leaf (.seq .leaf (.block (.loop ⟨[(0,.own 200001),(1,.val t3),(2,.val t3),(3,.val t3),(4,.val t163),(10,.val t4),(11,.val t4)],[(200001,.arr t82)]⟩ (.block (.seq .leaf (.seq (.seq .leaf (.cond (.seq .leaf .leaf) .leaf)) .leaf)))))))
theorem l_kpdqf (x):funIO U_k42 (tabT tab) noPhi Psi_kpdqf Tryz.f140 b_kpdqf ann_kpdqf ⟨[(0,.own 200001),(1,.val t3),(2,.val t3),(3,.val t3),(4,.val t163)],[(200001,.arr t82)]⟩ ⟨[],[(200001,.arr t82)]⟩ [] x=S_slices_pdqsortF shInsE x:=by kernel_rfl
theorem io_pdqf:IoSpec Tryz.prog U_k42 140 ioc_pdqf:=
 fnIO_ok mixOk tabOk noPhi_ok Psi_kpdqf_ok Tryz.func140 b_kpdqf_ok (by kernel_rfl) fun x=>M.le_trans (M.le_of_eq (l_kpdqf x)) (sPdqE x)
def b_ksortf:Code:=Tryz.f131.body.getD .skip
theorem b_ksortf_ok:Tryz.f131.body=some b_ksortf:=by kernel_rfl
def Psi_ksortf (k:Nat):Option KC:=if k=111 then some (.sc ⟨t141,t3,fcLen.sh,true⟩) else if k=140 then some (.io ioc_pdqf) else none
theorem Psi_ksortf_ok:PsiOk Tryz.prog U_k42 Psi_ksortf:=by
 intro k c h
 unfold Psi_ksortf at h
 split at h
 ·cases h;subst_vars;exact ⟨spec_k111,fun _ _=>M.det_det⟩
 split at h
 ·cases h;subst_vars;exact io_pdqf
 cases h
def ioc_sortf:IOC:=⟨⟨[(0,.own 200001),(1,.val t163)],[(200001,.arr t82)]⟩,⟨[],[(200001,.arr t82)]⟩,[],2,shSortE⟩
def ann_ksortf:Ann:=(.seq .leaf .leaf)
theorem l_ksortf (x):funIO U_k42 (tabT tab) noPhi Psi_ksortf Tryz.f131 b_ksortf ann_ksortf ⟨[(0,.own 200001),(1,.val t163)],[(200001,.arr t82)]⟩ ⟨[],[(200001,.arr t82)]⟩ [] x=S_slices_SortFunc fcLen.sh shPdqE x:=by kernel_rfl
theorem io_sortf:IoSpec Tryz.prog U_k42 131 ioc_sortf:=
 fnIO_ok mixOk tabOk noPhi_ok Psi_ksortf_ok Tryz.func131 b_ksortf_ok (by kernel_rfl) fun x=>M.le_trans (M.le_of_eq (l_ksortf x)) (sSortE x)
def b_k133:Code:=Tryz.f133.body.getD .skip
theorem b_k133_ok:Tryz.f133.body=some b_k133:=by kernel_rfl
def Psi_k133 (k:Nat):Option KC:=if k=139 then some (.sc ⟨t3,t4,fcNaN.sh,true⟩) else none
theorem Psi_k133_ok:PsiOk Tryz.prog noU Psi_k133:=by
 intro k c h
 unfold Psi_k133 at h
 split at h
 ·cases h;subst_vars;exact ⟨spec_k139,fun _ _=>M.det_det⟩
 cases h
def ann_k133:Ann:=(.seq .leaf (.seq .leaf (.seq .leaf (.seq (.seq .leaf (.cond (.seq (.seq .leaf (.cond (.seq .leaf .leaf) .leaf)) (.seq .leaf .leaf)) .leaf)) (.seq (.seq .leaf (.cond (.seq .leaf .leaf) .leaf)) (.seq (.seq .leaf (.cond (.seq .leaf .leaf) .leaf)) (.seq (.seq .leaf (.cond (.seq .leaf .leaf) .leaf)) (.seq .leaf .leaf))))))))
theorem l_k133 (x):funI noU (tabT tab) noPhi Psi_k133 Tryz.f133 b_k133 ann_k133 (.prod t3 t3) t3 x=S_cmp_Compare_int fcNaN.sh x:=by kernel_rfl
theorem spec_k133:FnSpec Tryz.prog 133 (.prod t3 t3) t3 fcCmp.sh:=
 fn_ok mixOk tabOk noU_ok noPhi_ok Psi_k133_ok Tryz.func133 b_k133_ok (by kernel_rfl) fun x=>M.le_trans (M.le_of_eq (l_k133 x)) (sCmp x)
def b_k132:Code:=Tryz.f132.body.getD .skip
theorem b_k132_ok:Tryz.f132.body=some b_k132:=by kernel_rfl
def Psi_k132 (k:Nat):Option KC:=if k=133 then some (.sc ⟨(.prod t3 t3),t3,fcCmp.sh,true⟩) else none
theorem Psi_k132_ok:PsiOk Tryz.prog noU Psi_k132:=by
 intro k c h
 unfold Psi_k132 at h
 split at h
 ·cases h;subst_vars;exact ⟨spec_k133,fun _ _=>M.det_det⟩
 cases h
def ann_k132:Ann:=(.seq .leaf (.seq .leaf .leaf))
theorem l_k132 (x):funI noU (tabT tab) noPhi Psi_k132 Tryz.f132 b_k132 ann_k132 (.prod t82 t82) t3 x=S_hire_book_open_c1 fcCmp.sh x:=by kernel_rfl
theorem spec_k132:FnSpec Tryz.prog 132 (.prod t82 t82) t3 fcCmpE.sh:=
 fn_ok mixOk tabOk noU_ok noPhi_ok Psi_k132_ok Tryz.func132 b_k132_ok (by kernel_rfl) fun x=>M.le_trans (M.le_of_eq (l_k132 x)) (sCmpE x)
def b_kopen:Code:=Tryz.f114.body.getD .skip
theorem b_kopen_ok:Tryz.f114.body=some b_kopen:=by kernel_rfl
def Psi_kopen (k:Nat):Option KC:=if k=130 then some (.sc ⟨t24,t24,fcClone.sh,true⟩) else if k=131 then some (.io ioc_sortf) else none
theorem Psi_kopen_ok:PsiOk Tryz.prog U_k42 Psi_kopen:=by
 intro k c h
 unfold Psi_kopen at h
 split at h
 ·cases h;subst_vars;exact ⟨spec_k130,fun _ _=>M.det_det⟩
 split at h
 ·cases h;subst_vars;exact io_sortf
 cases h
def ioc_open:IOC:=⟨⟨[(0,.loc 100000 0),(1,.val t24)],[(100000,.cells t79 [.val t22,.val t23,.val t24,.val t22,.val t3,.val t3,.val t3,.val t3,.val t3,.val t3,.val t3,.val t23,.own 100002]),(100002,.arr t80)]⟩,⟨[(0,.val t80),(1,.val t4)],[(100000,.cells t79 [.val t22,.val t23,.val t24,.val t22,.val t3,.val t3,.val t3,.val t3,.val t3,.val t3,.val t3,.val t23,.own 100002]),(100002,.arr t80)]⟩,[none,none],2,shOpen⟩
def ann_kopen:Ann:=(.seq .leaf (.join ⟨[(0,.loc 100000 0),(1,.val t24),(6,.loc 17 0)],[(17,.cells t103 [.val t24,.own 30000,.own 30001,.own 30002,.own 30003,.own 30004,.own 30005,.own 30006,.own 30007,.own 30008,.own 30009]),(100000,.cells t79 [.val t22,.val t23,.val t24,.val t22,.val t3,.val t3,.val t3,.val t3,.val t3,.val t3,.val t3,.val t23,.own 100002]),(100002,.arr t80),(30000,.arr t82),(30001,.arr t82),(30002,.arr t82),(30003,.arr t82),(30004,.arr t82),(30005,.arr t82),(30006,.arr t82),(30007,.arr t82),(30008,.arr t82),(30009,.arr t82)]⟩ .leaf (.join ⟨[(6,.loc 17 0)],[(17,.cells t103 [.val t24,.own 30000,.own 30001,.own 30002,.own 30003,.own 30004,.own 30005,.own 30006,.own 30007,.own 30008,.own 30009]),(30000,.arr t82),(30001,.arr t82),(30002,.arr t82),(30003,.arr t82),(30004,.arr t82),(30005,.arr t82),(30006,.arr t82),(30007,.arr t82),(30008,.arr t82),(30009,.arr t82),(100000,.cells t79 [.val t22,.val t23,.val t24,.val t22,.val t3,.val t3,.val t3,.val t3,.val t3,.val t3,.val t3,.val t23,.own 100002]),(100002,.arr t80)]⟩ (.seq .leaf (.block (.loop ⟨[(1,.val t24),(6,.loc 17 0),(21,.val t23),(22,.val t3),(23,.val t3)],[(17,.cells t103 [.val t24,.own 30000,.own 30001,.own 30002,.own 30003,.own 30004,.own 30005,.own 30006,.own 30007,.own 30008,.own 30009]),(30000,.arr t82),(30001,.arr t82),(30002,.arr t82),(30003,.arr t82),(30004,.arr t82),(30005,.arr t82),(30006,.arr t82),(30007,.arr t82),(30008,.arr t82),(30009,.arr t82),(100000,.cells t79 [.val t22,.val t23,.val t24,.val t22,.val t3,.val t3,.val t3,.val t3,.val t3,.val t3,.val t3,.val t23,.own 100002]),(100002,.arr t80)]⟩ (.seq .leaf (.seq (.cond .leaf .leaf) (.join ⟨[(1,.val t24),(6,.loc 17 0),(21,.val t23),(22,.val t3),(23,.val t3)],[(17,.cells t103 [.val t24,.own 30000,.own 30001,.own 30002,.own 30003,.own 30004,.own 30005,.own 30006,.own 30007,.own 30008,.own 30009]),(30000,.arr t82),(30001,.arr t82),(30002,.arr t82),(30003,.arr t82),(30004,.arr t82),(30005,.arr t82),(30006,.arr t82),(30007,.arr t82),(30008,.arr t82),(30009,.arr t82),(100000,.cells t79 [.val t22,.val t23,.val t24,.val t22,.val t3,.val t3,.val t3,.val t3,.val t3,.val t3,.val t3,.val t23,.own 100002]),(100002,.arr t80)]⟩ (.block (.seq .leaf (.split 8 4 10 .leaf))) .leaf)))))) (.join ⟨[(6,.loc 17 0)],[(17,.cells t103 [.val t24,.own 30000,.own 30001,.own 30002,.own 30003,.own 30004,.own 30005,.own 30006,.own 30007,.own 30008,.own 30009]),(30000,.arr t82),(30001,.arr t82),(30002,.arr t82),(30003,.arr t82),(30004,.arr t82),(30005,.arr t82),(30006,.arr t82),(30007,.arr t82),(30008,.arr t82),(30009,.arr t82),(100000,.cells t79 [.val t22,.val t23,.val t24,.val t22,.val t3,.val t3,.val t3,.val t3,.val t3,.val t3,.val t3,.val t23,.own 100002]),(100002,.arr t80)]⟩ (.seq .leaf (.block (.unr (.num 57 0 (.seq .leaf (.seq (.cond .leaf .leaf) (.join ⟨[(6,.loc 17 0),(56,.row [30000,30001,30002,30003,30004,30005,30006,30007,30008,30009]),(57,.val t3)],[(17,.cells t103 [.val t24,.own 30000,.own 30001,.own 30002,.own 30003,.own 30004,.own 30005,.own 30006,.own 30007,.own 30008,.own 30009]),(30000,.arr t82),(30001,.arr t82),(30002,.arr t82),(30003,.arr t82),(30004,.arr t82),(30005,.arr t82),(30006,.arr t82),(30007,.arr t82),(30008,.arr t82),(30009,.arr t82),(100000,.cells t79 [.val t22,.val t23,.val t24,.val t22,.val t3,.val t3,.val t3,.val t3,.val t3,.val t3,.val t3,.val t23,.own 100002]),(100002,.arr t80)]⟩ (.block (.seq .leaf (.seq .leaf (.seq .leaf (.block (.loop ⟨[(6,.loc 17 0),(10,.own 30000),(56,.row [30000,30001,30002,30003,30004,30005,30006,30007,30008,30009]),(57,.val t3),(62,.own 30000),(63,.val t3),(64,.val t3)],[(17,.cells t103 [.val t24,.own 30000,.own 30001,.own 30002,.own 30003,.own 30004,.own 30005,.own 30006,.own 30007,.own 30008,.own 30009]),(30000,.arr t82),(30001,.arr t82),(30002,.arr t82),(30003,.arr t82),(30004,.arr t82),(30005,.arr t82),(30006,.arr t82),(30007,.arr t82),(30008,.arr t82),(30009,.arr t82),(100000,.cells t79 [.val t22,.val t23,.val t24,.val t22,.val t3,.val t3,.val t3,.val t3,.val t3,.val t3,.val t3,.val t23,.own 100002]),(100002,.arr t80)]⟩ (.seq .leaf (.seq (.cond .leaf .leaf) (.seq (.block (.seq .leaf (.seq .leaf (.join ⟨[(6,.loc 17 0),(10,.own 30000),(11,.val t3),(12,.loc 12 0),(13,.val t3),(56,.row [30000,30001,30002,30003,30004,30005,30006,30007,30008,30009]),(57,.val t3),(62,.own 30000),(63,.val t3),(64,.val t3)],[(12,.whole t82),(17,.cells t103 [.val t24,.own 30000,.own 30001,.own 30002,.own 30003,.own 30004,.own 30005,.own 30006,.own 30007,.own 30008,.own 30009]),(30000,.arr t82),(30001,.arr t82),(30002,.arr t82),(30003,.arr t82),(30004,.arr t82),(30005,.arr t82),(30006,.arr t82),(30007,.arr t82),(30008,.arr t82),(30009,.arr t82),(100000,.cells t79 [.val t22,.val t23,.val t24,.val t22,.val t3,.val t3,.val t3,.val t3,.val t3,.val t3,.val t3,.val t23,.own 100002]),(100002,.arr t80)]⟩ (.seq .leaf (.cond .leaf .leaf)) (.seq .leaf (.cond (.seq .leaf .leaf) .leaf)))))) .leaf))))))))) .leaf)))) (.unr (.num 57 1 (.seq .leaf (.seq (.cond .leaf .leaf) (.join ⟨[(6,.loc 17 0),(56,.row [30000,30001,30002,30003,30004,30005,30006,30007,30008,30009]),(57,.val t3)],[(17,.cells t103 [.val t24,.own 30000,.own 30001,.own 30002,.own 30003,.own 30004,.own 30005,.own 30006,.own 30007,.own 30008,.own 30009]),(30000,.arr t82),(30001,.arr t82),(30002,.arr t82),(30003,.arr t82),(30004,.arr t82),(30005,.arr t82),(30006,.arr t82),(30007,.arr t82),(30008,.arr t82),(30009,.arr t82),(100000,.cells t79 [.val t22,.val t23,.val t24,.val t22,.val t3,.val t3,.val t3,.val t3,.val t3,.val t3,.val t3,.val t23,.own 100002]),(100002,.arr t80)]⟩ (.block (.seq .leaf (.seq .leaf (.seq .leaf (.block (.loop ⟨[(6,.loc 17 0),(10,.own 30001),(56,.row [30000,30001,30002,30003,30004,30005,30006,30007,30008,30009]),(57,.val t3),(62,.own 30001),(63,.val t3),(64,.val t3)],[(17,.cells t103 [.val t24,.own 30000,.own 30001,.own 30002,.own 30003,.own 30004,.own 30005,.own 30006,.own 30007,.own 30008,.own 30009]),(30000,.arr t82),(30001,.arr t82),(30002,.arr t82),(30003,.arr t82),(30004,.arr t82),(30005,.arr t82),(30006,.arr t82),(30007,.arr t82),(30008,.arr t82),(30009,.arr t82),(100000,.cells t79 [.val t22,.val t23,.val t24,.val t22,.val t3,.val t3,.val t3,.val t3,.val t3,.val t3,.val t3,.val t23,.own 100002]),(100002,.arr t80)]⟩ (.seq .leaf (.seq (.cond .leaf .leaf) (.seq (.block (.seq .leaf (.seq .leaf (.join ⟨[(6,.loc 17 0),(10,.own 30001),(11,.val t3),(12,.loc 12 0),(13,.val t3),(56,.row [30000,30001,30002,30003,30004,30005,30006,30007,30008,30009]),(57,.val t3),(62,.own 30001),(63,.val t3),(64,.val t3)],[(12,.whole t82),(17,.cells t103 [.val t24,.own 30000,.own 30001,.own 30002,.own 30003,.own 30004,.own 30005,.own 30006,.own 30007,.own 30008,.own 30009]),(30000,.arr t82),(30001,.arr t82),(30002,.arr t82),(30003,.arr t82),(30004,.arr t82),(30005,.arr t82),(30006,.arr t82),(30007,.arr t82),(30008,.arr t82),(30009,.arr t82),(100000,.cells t79 [.val t22,.val t23,.val t24,.val t22,.val t3,.val t3,.val t3,.val t3,.val t3,.val t3,.val t3,.val t23,.own 100002]),(100002,.arr t80)]⟩ (.seq .leaf (.cond .leaf .leaf)) (.seq .leaf (.cond (.seq .leaf .leaf) .leaf)))))) .leaf))))))))) .leaf)))) (.unr (.num 57 2 (.seq .leaf (.seq (.cond .leaf .leaf) (.join ⟨[(6,.loc 17 0),(56,.row [30000,30001,30002,30003,30004,30005,30006,30007,30008,30009]),(57,.val t3)],[(17,.cells t103 [.val t24,.own 30000,.own 30001,.own 30002,.own 30003,.own 30004,.own 30005,.own 30006,.own 30007,.own 30008,.own 30009]),(30000,.arr t82),(30001,.arr t82),(30002,.arr t82),(30003,.arr t82),(30004,.arr t82),(30005,.arr t82),(30006,.arr t82),(30007,.arr t82),(30008,.arr t82),(30009,.arr t82),(100000,.cells t79 [.val t22,.val t23,.val t24,.val t22,.val t3,.val t3,.val t3,.val t3,.val t3,.val t3,.val t3,.val t23,.own 100002]),(100002,.arr t80)]⟩ (.block (.seq .leaf (.seq .leaf (.seq .leaf (.block (.loop ⟨[(6,.loc 17 0),(10,.own 30002),(56,.row [30000,30001,30002,30003,30004,30005,30006,30007,30008,30009]),(57,.val t3),(62,.own 30002),(63,.val t3),(64,.val t3)],[(17,.cells t103 [.val t24,.own 30000,.own 30001,.own 30002,.own 30003,.own 30004,.own 30005,.own 30006,.own 30007,.own 30008,.own 30009]),(30000,.arr t82),(30001,.arr t82),(30002,.arr t82),(30003,.arr t82),(30004,.arr t82),(30005,.arr t82),(30006,.arr t82),(30007,.arr t82),(30008,.arr t82),(30009,.arr t82),(100000,.cells t79 [.val t22,.val t23,.val t24,.val t22,.val t3,.val t3,.val t3,.val t3,.val t3,.val t3,.val t3,.val t23,.own 100002]),(100002,.arr t80)]⟩ (.seq .leaf (.seq (.cond .leaf .leaf) (.seq (.block (.seq .leaf (.seq .leaf (.join ⟨[(6,.loc 17 0),(10,.own 30002),(11,.val t3),(12,.loc 12 0),(13,.val t3),(56,.row [30000,30001,30002,30003,30004,30005,30006,30007,30008,30009]),(57,.val t3),(62,.own 30002),(63,.val t3),(64,.val t3)],[(12,.whole t82),(17,.cells t103 [.val t24,.own 30000,.own 30001,.own 30002,.own 30003,.own 30004,.own 30005,.own 30006,.own 30007,.own 30008,.own 30009]),(30000,.arr t82),(30001,.arr t82),(30002,.arr t82),(30003,.arr t82),(30004,.arr t82),(30005,.arr t82),(30006,.arr t82),(30007,.arr t82),(30008,.arr t82),(30009,.arr t82),(100000,.cells t79 [.val t22,.val t23,.val t24,.val t22,.val t3,.val t3,.val t3,.val t3,.val t3,.val t3,.val t3,.val t23,.own 100002]),(100002,.arr t80)]⟩ (.seq .leaf (.cond .leaf .leaf)) (.seq .leaf (.cond (.seq .leaf .leaf) .leaf)))))) .leaf))))))))) .leaf)))) (.unr (.num 57 3 (.seq .leaf (.seq (.cond .leaf .leaf) (.join ⟨[(6,.loc 17 0),(56,.row [30000,30001,30002,30003,30004,30005,30006,30007,30008,30009]),(57,.val t3)],[(17,.cells t103 [.val t24,.own 30000,.own 30001,.own 30002,.own 30003,.own 30004,.own 30005,.own 30006,.own 30007,.own 30008,.own 30009]),(30000,.arr t82),(30001,.arr t82),(30002,.arr t82),(30003,.arr t82),(30004,.arr t82),(30005,.arr t82),(30006,.arr t82),(30007,.arr t82),(30008,.arr t82),(30009,.arr t82),(100000,.cells t79 [.val t22,.val t23,.val t24,.val t22,.val t3,.val t3,.val t3,.val t3,.val t3,.val t3,.val t3,.val t23,.own 100002]),(100002,.arr t80)]⟩ (.block (.seq .leaf (.seq .leaf (.seq .leaf (.block (.loop ⟨[(6,.loc 17 0),(10,.own 30003),(56,.row [30000,30001,30002,30003,30004,30005,30006,30007,30008,30009]),(57,.val t3),(62,.own 30003),(63,.val t3),(64,.val t3)],[(17,.cells t103 [.val t24,.own 30000,.own 30001,.own 30002,.own 30003,.own 30004,.own 30005,.own 30006,.own 30007,.own 30008,.own 30009]),(30000,.arr t82),(30001,.arr t82),(30002,.arr t82),(30003,.arr t82),(30004,.arr t82),(30005,.arr t82),(30006,.arr t82),(30007,.arr t82),(30008,.arr t82),(30009,.arr t82),(100000,.cells t79 [.val t22,.val t23,.val t24,.val t22,.val t3,.val t3,.val t3,.val t3,.val t3,.val t3,.val t3,.val t23,.own 100002]),(100002,.arr t80)]⟩ (.seq .leaf (.seq (.cond .leaf .leaf) (.seq (.block (.seq .leaf (.seq .leaf (.join ⟨[(6,.loc 17 0),(10,.own 30003),(11,.val t3),(12,.loc 12 0),(13,.val t3),(56,.row [30000,30001,30002,30003,30004,30005,30006,30007,30008,30009]),(57,.val t3),(62,.own 30003),(63,.val t3),(64,.val t3)],[(12,.whole t82),(17,.cells t103 [.val t24,.own 30000,.own 30001,.own 30002,.own 30003,.own 30004,.own 30005,.own 30006,.own 30007,.own 30008,.own 30009]),(30000,.arr t82),(30001,.arr t82),(30002,.arr t82),(30003,.arr t82),(30004,.arr t82),(30005,.arr t82),(30006,.arr t82),(30007,.arr t82),(30008,.arr t82),(30009,.arr t82),(100000,.cells t79 [.val t22,.val t23,.val t24,.val t22,.val t3,.val t3,.val t3,.val t3,.val t3,.val t3,.val t3,.val t23,.own 100002]),(100002,.arr t80)]⟩ (.seq .leaf (.cond .leaf .leaf)) (.seq .leaf (.cond (.seq .leaf .leaf) .leaf)))))) .leaf))))))))) .leaf)))) (.unr (.num 57 4 (.seq .leaf (.seq (.cond .leaf .leaf) (.join ⟨[(6,.loc 17 0),(56,.row [30000,30001,30002,30003,30004,30005,30006,30007,30008,30009]),(57,.val t3)],[(17,.cells t103 [.val t24,.own 30000,.own 30001,.own 30002,.own 30003,.own 30004,.own 30005,.own 30006,.own 30007,.own 30008,.own 30009]),(30000,.arr t82),(30001,.arr t82),(30002,.arr t82),(30003,.arr t82),(30004,.arr t82),(30005,.arr t82),(30006,.arr t82),(30007,.arr t82),(30008,.arr t82),(30009,.arr t82),(100000,.cells t79 [.val t22,.val t23,.val t24,.val t22,.val t3,.val t3,.val t3,.val t3,.val t3,.val t3,.val t3,.val t23,.own 100002]),(100002,.arr t80)]⟩ (.block (.seq .leaf (.seq .leaf (.seq .leaf (.block (.loop ⟨[(6,.loc 17 0),(10,.own 30004),(56,.row [30000,30001,30002,30003,30004,30005,30006,30007,30008,30009]),(57,.val t3),(62,.own 30004),(63,.val t3),(64,.val t3)],[(17,.cells t103 [.val t24,.own 30000,.own 30001,.own 30002,.own 30003,.own 30004,.own 30005,.own 30006,.own 30007,.own 30008,.own 30009]),(30000,.arr t82),(30001,.arr t82),(30002,.arr t82),(30003,.arr t82),(30004,.arr t82),(30005,.arr t82),(30006,.arr t82),(30007,.arr t82),(30008,.arr t82),(30009,.arr t82),(100000,.cells t79 [.val t22,.val t23,.val t24,.val t22,.val t3,.val t3,.val t3,.val t3,.val t3,.val t3,.val t3,.val t23,.own 100002]),(100002,.arr t80)]⟩ (.seq .leaf (.seq (.cond .leaf .leaf) (.seq (.block (.seq .leaf (.seq .leaf (.join ⟨[(6,.loc 17 0),(10,.own 30004),(11,.val t3),(12,.loc 12 0),(13,.val t3),(56,.row [30000,30001,30002,30003,30004,30005,30006,30007,30008,30009]),(57,.val t3),(62,.own 30004),(63,.val t3),(64,.val t3)],[(12,.whole t82),(17,.cells t103 [.val t24,.own 30000,.own 30001,.own 30002,.own 30003,.own 30004,.own 30005,.own 30006,.own 30007,.own 30008,.own 30009]),(30000,.arr t82),(30001,.arr t82),(30002,.arr t82),(30003,.arr t82),(30004,.arr t82),(30005,.arr t82),(30006,.arr t82),(30007,.arr t82),(30008,.arr t82),(30009,.arr t82),(100000,.cells t79 [.val t22,.val t23,.val t24,.val t22,.val t3,.val t3,.val t3,.val t3,.val t3,.val t3,.val t3,.val t23,.own 100002]),(100002,.arr t80)]⟩ (.seq .leaf (.cond .leaf .leaf)) (.seq .leaf (.cond (.seq .leaf .leaf) .leaf)))))) .leaf))))))))) .leaf)))) (.unr (.num 57 5 (.seq .leaf (.seq (.cond .leaf .leaf) (.join ⟨[(6,.loc 17 0),(56,.row [30000,30001,30002,30003,30004,30005,30006,30007,30008,30009]),(57,.val t3)],[(17,.cells t103 [.val t24,.own 30000,.own 30001,.own 30002,.own 30003,.own 30004,.own 30005,.own 30006,.own 30007,.own 30008,.own 30009]),(30000,.arr t82),(30001,.arr t82),(30002,.arr t82),(30003,.arr t82),(30004,.arr t82),(30005,.arr t82),(30006,.arr t82),(30007,.arr t82),(30008,.arr t82),(30009,.arr t82),(100000,.cells t79 [.val t22,.val t23,.val t24,.val t22,.val t3,.val t3,.val t3,.val t3,.val t3,.val t3,.val t3,.val t23,.own 100002]),(100002,.arr t80)]⟩ (.block (.seq .leaf (.seq .leaf (.seq .leaf (.block (.loop ⟨[(6,.loc 17 0),(10,.own 30005),(56,.row [30000,30001,30002,30003,30004,30005,30006,30007,30008,30009]),(57,.val t3),(62,.own 30005),(63,.val t3),(64,.val t3)],[(17,.cells t103 [.val t24,.own 30000,.own 30001,.own 30002,.own 30003,.own 30004,.own 30005,.own 30006,.own 30007,.own 30008,.own 30009]),(30000,.arr t82),(30001,.arr t82),(30002,.arr t82),(30003,.arr t82),(30004,.arr t82),(30005,.arr t82),(30006,.arr t82),(30007,.arr t82),(30008,.arr t82),(30009,.arr t82),(100000,.cells t79 [.val t22,.val t23,.val t24,.val t22,.val t3,.val t3,.val t3,.val t3,.val t3,.val t3,.val t3,.val t23,.own 100002]),(100002,.arr t80)]⟩ (.seq .leaf (.seq (.cond .leaf .leaf) (.seq (.block (.seq .leaf (.seq .leaf (.join ⟨[(6,.loc 17 0),(10,.own 30005),(11,.val t3),(12,.loc 12 0),(13,.val t3),(56,.row [30000,30001,30002,30003,30004,30005,30006,30007,30008,30009]),(57,.val t3),(62,.own 30005),(63,.val t3),(64,.val t3)],[(12,.whole t82),(17,.cells t103 [.val t24,.own 30000,.own 30001,.own 30002,.own 30003,.own 30004,.own 30005,.own 30006,.own 30007,.own 30008,.own 30009]),(30000,.arr t82),(30001,.arr t82),(30002,.arr t82),(30003,.arr t82),(30004,.arr t82),(30005,.arr t82),(30006,.arr t82),(30007,.arr t82),(30008,.arr t82),(30009,.arr t82),(100000,.cells t79 [.val t22,.val t23,.val t24,.val t22,.val t3,.val t3,.val t3,.val t3,.val t3,.val t3,.val t3,.val t23,.own 100002]),(100002,.arr t80)]⟩ (.seq .leaf (.cond .leaf .leaf)) (.seq .leaf (.cond (.seq .leaf .leaf) .leaf)))))) .leaf))))))))) .leaf)))) (.unr (.num 57 6 (.seq .leaf (.seq (.cond .leaf .leaf) (.join ⟨[(6,.loc 17 0),(56,.row [30000,30001,30002,30003,30004,30005,30006,30007,30008,30009]),(57,.val t3)],[(17,.cells t103 [.val t24,.own 30000,.own 30001,.own 30002,.own 30003,.own 30004,.own 30005,.own 30006,.own 30007,.own 30008,.own 30009]),(30000,.arr t82),(30001,.arr t82),(30002,.arr t82),(30003,.arr t82),(30004,.arr t82),(30005,.arr t82),(30006,.arr t82),(30007,.arr t82),(30008,.arr t82),(30009,.arr t82),(100000,.cells t79 [.val t22,.val t23,.val t24,.val t22,.val t3,.val t3,.val t3,.val t3,.val t3,.val t3,.val t3,.val t23,.own 100002]),(100002,.arr t80)]⟩ (.block (.seq .leaf (.seq .leaf (.seq .leaf (.block (.loop ⟨[(6,.loc 17 0),(10,.own 30006),(56,.row [30000,30001,30002,30003,30004,30005,30006,30007,30008,30009]),(57,.val t3),(62,.own 30006),(63,.val t3),(64,.val t3)],[(17,.cells t103 [.val t24,.own 30000,.own 30001,.own 30002,.own 30003,.own 30004,.own 30005,.own 30006,.own 30007,.own 30008,.own 30009]),(30000,.arr t82),(30001,.arr t82),(30002,.arr t82),(30003,.arr t82),(30004,.arr t82),(30005,.arr t82),(30006,.arr t82),(30007,.arr t82),(30008,.arr t82),(30009,.arr t82),(100000,.cells t79 [.val t22,.val t23,.val t24,.val t22,.val t3,.val t3,.val t3,.val t3,.val t3,.val t3,.val t3,.val t23,.own 100002]),(100002,.arr t80)]⟩ (.seq .leaf (.seq (.cond .leaf .leaf) (.seq (.block (.seq .leaf (.seq .leaf (.join ⟨[(6,.loc 17 0),(10,.own 30006),(11,.val t3),(12,.loc 12 0),(13,.val t3),(56,.row [30000,30001,30002,30003,30004,30005,30006,30007,30008,30009]),(57,.val t3),(62,.own 30006),(63,.val t3),(64,.val t3)],[(12,.whole t82),(17,.cells t103 [.val t24,.own 30000,.own 30001,.own 30002,.own 30003,.own 30004,.own 30005,.own 30006,.own 30007,.own 30008,.own 30009]),(30000,.arr t82),(30001,.arr t82),(30002,.arr t82),(30003,.arr t82),(30004,.arr t82),(30005,.arr t82),(30006,.arr t82),(30007,.arr t82),(30008,.arr t82),(30009,.arr t82),(100000,.cells t79 [.val t22,.val t23,.val t24,.val t22,.val t3,.val t3,.val t3,.val t3,.val t3,.val t3,.val t3,.val t23,.own 100002]),(100002,.arr t80)]⟩ (.seq .leaf (.cond .leaf .leaf)) (.seq .leaf (.cond (.seq .leaf .leaf) .leaf)))))) .leaf))))))))) .leaf)))) (.unr (.num 57 7 (.seq .leaf (.seq (.cond .leaf .leaf) (.join ⟨[(6,.loc 17 0),(56,.row [30000,30001,30002,30003,30004,30005,30006,30007,30008,30009]),(57,.val t3)],[(17,.cells t103 [.val t24,.own 30000,.own 30001,.own 30002,.own 30003,.own 30004,.own 30005,.own 30006,.own 30007,.own 30008,.own 30009]),(30000,.arr t82),(30001,.arr t82),(30002,.arr t82),(30003,.arr t82),(30004,.arr t82),(30005,.arr t82),(30006,.arr t82),(30007,.arr t82),(30008,.arr t82),(30009,.arr t82),(100000,.cells t79 [.val t22,.val t23,.val t24,.val t22,.val t3,.val t3,.val t3,.val t3,.val t3,.val t3,.val t3,.val t23,.own 100002]),(100002,.arr t80)]⟩ (.block (.seq .leaf (.seq .leaf (.seq .leaf (.block (.loop ⟨[(6,.loc 17 0),(10,.own 30007),(56,.row [30000,30001,30002,30003,30004,30005,30006,30007,30008,30009]),(57,.val t3),(62,.own 30007),(63,.val t3),(64,.val t3)],[(17,.cells t103 [.val t24,.own 30000,.own 30001,.own 30002,.own 30003,.own 30004,.own 30005,.own 30006,.own 30007,.own 30008,.own 30009]),(30000,.arr t82),(30001,.arr t82),(30002,.arr t82),(30003,.arr t82),(30004,.arr t82),(30005,.arr t82),(30006,.arr t82),(30007,.arr t82),(30008,.arr t82),(30009,.arr t82),(100000,.cells t79 [.val t22,.val t23,.val t24,.val t22,.val t3,.val t3,.val t3,.val t3,.val t3,.val t3,.val t3,.val t23,.own 100002]),(100002,.arr t80)]⟩ (.seq .leaf (.seq (.cond .leaf .leaf) (.seq (.block (.seq .leaf (.seq .leaf (.join ⟨[(6,.loc 17 0),(10,.own 30007),(11,.val t3),(12,.loc 12 0),(13,.val t3),(56,.row [30000,30001,30002,30003,30004,30005,30006,30007,30008,30009]),(57,.val t3),(62,.own 30007),(63,.val t3),(64,.val t3)],[(12,.whole t82),(17,.cells t103 [.val t24,.own 30000,.own 30001,.own 30002,.own 30003,.own 30004,.own 30005,.own 30006,.own 30007,.own 30008,.own 30009]),(30000,.arr t82),(30001,.arr t82),(30002,.arr t82),(30003,.arr t82),(30004,.arr t82),(30005,.arr t82),(30006,.arr t82),(30007,.arr t82),(30008,.arr t82),(30009,.arr t82),(100000,.cells t79 [.val t22,.val t23,.val t24,.val t22,.val t3,.val t3,.val t3,.val t3,.val t3,.val t3,.val t3,.val t23,.own 100002]),(100002,.arr t80)]⟩ (.seq .leaf (.cond .leaf .leaf)) (.seq .leaf (.cond (.seq .leaf .leaf) .leaf)))))) .leaf))))))))) .leaf)))) (.unr (.num 57 8 (.seq .leaf (.seq (.cond .leaf .leaf) (.join ⟨[(6,.loc 17 0),(56,.row [30000,30001,30002,30003,30004,30005,30006,30007,30008,30009]),(57,.val t3)],[(17,.cells t103 [.val t24,.own 30000,.own 30001,.own 30002,.own 30003,.own 30004,.own 30005,.own 30006,.own 30007,.own 30008,.own 30009]),(30000,.arr t82),(30001,.arr t82),(30002,.arr t82),(30003,.arr t82),(30004,.arr t82),(30005,.arr t82),(30006,.arr t82),(30007,.arr t82),(30008,.arr t82),(30009,.arr t82),(100000,.cells t79 [.val t22,.val t23,.val t24,.val t22,.val t3,.val t3,.val t3,.val t3,.val t3,.val t3,.val t3,.val t23,.own 100002]),(100002,.arr t80)]⟩ (.block (.seq .leaf (.seq .leaf (.seq .leaf (.block (.loop ⟨[(6,.loc 17 0),(10,.own 30008),(56,.row [30000,30001,30002,30003,30004,30005,30006,30007,30008,30009]),(57,.val t3),(62,.own 30008),(63,.val t3),(64,.val t3)],[(17,.cells t103 [.val t24,.own 30000,.own 30001,.own 30002,.own 30003,.own 30004,.own 30005,.own 30006,.own 30007,.own 30008,.own 30009]),(30000,.arr t82),(30001,.arr t82),(30002,.arr t82),(30003,.arr t82),(30004,.arr t82),(30005,.arr t82),(30006,.arr t82),(30007,.arr t82),(30008,.arr t82),(30009,.arr t82),(100000,.cells t79 [.val t22,.val t23,.val t24,.val t22,.val t3,.val t3,.val t3,.val t3,.val t3,.val t3,.val t3,.val t23,.own 100002]),(100002,.arr t80)]⟩ (.seq .leaf (.seq (.cond .leaf .leaf) (.seq (.block (.seq .leaf (.seq .leaf (.join ⟨[(6,.loc 17 0),(10,.own 30008),(11,.val t3),(12,.loc 12 0),(13,.val t3),(56,.row [30000,30001,30002,30003,30004,30005,30006,30007,30008,30009]),(57,.val t3),(62,.own 30008),(63,.val t3),(64,.val t3)],[(12,.whole t82),(17,.cells t103 [.val t24,.own 30000,.own 30001,.own 30002,.own 30003,.own 30004,.own 30005,.own 30006,.own 30007,.own 30008,.own 30009]),(30000,.arr t82),(30001,.arr t82),(30002,.arr t82),(30003,.arr t82),(30004,.arr t82),(30005,.arr t82),(30006,.arr t82),(30007,.arr t82),(30008,.arr t82),(30009,.arr t82),(100000,.cells t79 [.val t22,.val t23,.val t24,.val t22,.val t3,.val t3,.val t3,.val t3,.val t3,.val t3,.val t3,.val t23,.own 100002]),(100002,.arr t80)]⟩ (.seq .leaf (.cond .leaf .leaf)) (.seq .leaf (.cond (.seq .leaf .leaf) .leaf)))))) .leaf))))))))) .leaf)))) (.unr (.num 57 9 (.seq .leaf (.seq (.cond .leaf .leaf) (.join ⟨[(6,.loc 17 0),(56,.row [30000,30001,30002,30003,30004,30005,30006,30007,30008,30009]),(57,.val t3)],[(17,.cells t103 [.val t24,.own 30000,.own 30001,.own 30002,.own 30003,.own 30004,.own 30005,.own 30006,.own 30007,.own 30008,.own 30009]),(30000,.arr t82),(30001,.arr t82),(30002,.arr t82),(30003,.arr t82),(30004,.arr t82),(30005,.arr t82),(30006,.arr t82),(30007,.arr t82),(30008,.arr t82),(30009,.arr t82),(100000,.cells t79 [.val t22,.val t23,.val t24,.val t22,.val t3,.val t3,.val t3,.val t3,.val t3,.val t3,.val t3,.val t23,.own 100002]),(100002,.arr t80)]⟩ (.block (.seq .leaf (.seq .leaf (.seq .leaf (.block (.loop ⟨[(6,.loc 17 0),(10,.own 30009),(56,.row [30000,30001,30002,30003,30004,30005,30006,30007,30008,30009]),(57,.val t3),(62,.own 30009),(63,.val t3),(64,.val t3)],[(17,.cells t103 [.val t24,.own 30000,.own 30001,.own 30002,.own 30003,.own 30004,.own 30005,.own 30006,.own 30007,.own 30008,.own 30009]),(30000,.arr t82),(30001,.arr t82),(30002,.arr t82),(30003,.arr t82),(30004,.arr t82),(30005,.arr t82),(30006,.arr t82),(30007,.arr t82),(30008,.arr t82),(30009,.arr t82),(100000,.cells t79 [.val t22,.val t23,.val t24,.val t22,.val t3,.val t3,.val t3,.val t3,.val t3,.val t3,.val t3,.val t23,.own 100002]),(100002,.arr t80)]⟩ (.seq .leaf (.seq (.cond .leaf .leaf) (.seq (.block (.seq .leaf (.seq .leaf (.join ⟨[(6,.loc 17 0),(10,.own 30009),(11,.val t3),(12,.loc 12 0),(13,.val t3),(56,.row [30000,30001,30002,30003,30004,30005,30006,30007,30008,30009]),(57,.val t3),(62,.own 30009),(63,.val t3),(64,.val t3)],[(12,.whole t82),(17,.cells t103 [.val t24,.own 30000,.own 30001,.own 30002,.own 30003,.own 30004,.own 30005,.own 30006,.own 30007,.own 30008,.own 30009]),(30000,.arr t82),(30001,.arr t82),(30002,.arr t82),(30003,.arr t82),(30004,.arr t82),(30005,.arr t82),(30006,.arr t82),(30007,.arr t82),(30008,.arr t82),(30009,.arr t82),(100000,.cells t79 [.val t22,.val t23,.val t24,.val t22,.val t3,.val t3,.val t3,.val t3,.val t3,.val t3,.val t3,.val t23,.own 100002]),(100002,.arr t80)]⟩ (.seq .leaf (.cond .leaf .leaf)) (.seq .leaf (.cond (.seq .leaf .leaf) .leaf)))))) .leaf))))))))) .leaf)))) (.unr (.num 57 10 (.seq .leaf (.seq (.cond .leaf .leaf) .leaf))) .leaf))))))))))))) (.seq .leaf .leaf)))))
theorem l_kopen (x):funIO U_k42 (tabT tab) noPhi Psi_kopen Tryz.f114 b_kopen ann_kopen ⟨[(0,.loc 100000 0),(1,.val t24)],[(100000,.cells t79 [.val t22,.val t23,.val t24,.val t22,.val t3,.val t3,.val t3,.val t3,.val t3,.val t3,.val t3,.val t23,.own 100002]),(100002,.arr t80)]⟩ ⟨[(0,.val t80),(1,.val t4)],[(100000,.cells t79 [.val t22,.val t23,.val t24,.val t22,.val t3,.val t3,.val t3,.val t3,.val t3,.val t3,.val t3,.val t23,.own 100002]),(100002,.arr t80)]⟩ [none,none] x=S_hire_book_open fcClone.sh shSortE fcCmpE.sh x:=by kernel_rfl
theorem io_open:IoSpec Tryz.prog U_k42 114 ioc_open:=
 fnIO_ok mixOk tabOk noPhi_ok Psi_kopen_ok Tryz.func114 b_kopen_ok (by kernel_rfl) fun x=>M.le_trans (M.le_of_eq (l_kopen x)) (sOpen x)
def b_ksearch:Code:=Tryz.f86.body.getD .skip
theorem b_ksearch_ok:Tryz.f86.body=some b_ksearch:=by kernel_rfl
def ioc_search (f:Nat):IOC:=⟨⟨[(0,.loc 100000 0),(1,.val t24)],[(100000,.cells t79 [.val t22,.val t23,.val t24,.val t22,.val t3,.val t3,.val t3,.val t3,.val t3,.val t3,.val t3,.val t23,.own 100002]),(100002,.arr t80)]⟩,⟨[],[(100000,.cells t79 [.val t22,.val t23,.val t24,.val t22,.val t3,.val t3,.val t3,.val t3,.val t3,.val t3,.val t3,.val t23,.own 100002]),(100002,.arr t80)]⟩,[],2,shSearchF f⟩
def Psi_ksearch (f:Nat) (k:Nat):Option KC:=if k=86 then some (.io (ioc_search f)) else if k=114 then some (.io ioc_open) else none
theorem Psi_ksearch_ok (f:Nat) (ih:IoSpec Tryz.prog U_k42 86 (ioc_search f)):PsiOk Tryz.prog U_k42 (Psi_ksearch f):=by
 intro k c h
 unfold Psi_ksearch at h
 split at h
 ·cases h;subst_vars;exact ih
 split at h
 ·cases h;subst_vars;exact io_open
 cases h
def ann_ksearch:Ann:=(.seq .leaf (.seq (.seq .leaf (.cond (.join ⟨[],[(100000,.cells t79 [.val t22,.val t23,.val t24,.val t22,.val t3,.val t3,.val t3,.val t3,.val t3,.val t3,.val t3,.val t23,.own 100002]),(100002,.arr t80)]⟩ (.seq .leaf (.seq .leaf (.cond .leaf .leaf))) .leaf) .leaf)) (.seq .leaf (.block (.loop ⟨[(0,.loc 100000 0),(1,.val t24),(4,.val t3),(7,.val t3)],[(100000,.cells t79 [.val t22,.val t23,.val t24,.val t22,.val t3,.val t3,.val t3,.val t3,.val t3,.val t3,.val t3,.val t23,.own 100002]),(100002,.arr t80)]⟩ (.seq (.seq .leaf (.cond .leaf .leaf)) (.seq (.block .leaf) .leaf)))))))
theorem l_ksearch (f:Nat) (x):funIO U_k42 (tabT tab) noPhi (Psi_ksearch f) Tryz.f86 b_ksearch ann_ksearch ⟨[(0,.loc 100000 0),(1,.val t24)],[(100000,.cells t79 [.val t22,.val t23,.val t24,.val t22,.val t3,.val t3,.val t3,.val t3,.val t3,.val t3,.val t3,.val t23,.own 100002]),(100002,.arr t80)]⟩ ⟨[],[(100000,.cells t79 [.val t22,.val t23,.val t24,.val t22,.val t3,.val t3,.val t3,.val t3,.val t3,.val t3,.val t3,.val t23,.own 100002]),(100002,.arr t80)]⟩ [] x=S_hire_book_search (shSearchF f) shOpen x:=by kernel_rfl
theorem io_search:∀ f,IoSpec Tryz.prog U_k42 86 (ioc_search f)
 | 0=>fnIO_ok mixOk tabOk noPhi_ok (Ψ:=fun _=>none) (fun k c h=>by cases h) (ann:=ann_ksearch) Tryz.func86 b_ksearch_ok (by kernel_rfl) fun x hs=>absurd hs (shSearch_zero x)
 | f+1=>fnIO_ok mixOk tabOk noPhi_ok (Psi_ksearch_ok f (io_search f)) Tryz.func86 b_ksearch_ok (by kernel_rfl) fun x=>M.le_trans (M.le_of_eq (l_ksearch f x)) (sSearch f x)
def b_k42:Code:=Tryz.f42.body.getD .skip
theorem b_k42_ok:Tryz.f42.body=some b_k42:=by kernel_rfl
theorem U_k42_ok:FnTabOk Tryz.prog U_k42 where
 fnv:=by
  intro k v h
  simp only [U_k42] at h
  split at h
  ·cases h;subst_vars;exact spec_k132
  cases h
 clv:=by
  intro k v h
  simp only [U_k42] at h
  split at h
  ·cases h;subst_vars;exact ⟨rfl,spec_k84⟩
  cases h
def Psi_k42 (k:Nat):Option KC:=if k=26 then some (.sc ⟨t28,t34,fcCheck.sh,true⟩) else if k=63 then some (.io ioc_once) else if k=83 then some (.io ioc_delfunc) else if k=86 then some (.io (ioc_search 5)) else none
theorem Psi_k42_ok:PsiOk Tryz.prog U_k42 Psi_k42:=by
 intro k c h
 unfold Psi_k42 at h
 split at h
 ·cases h;subst_vars;exact ⟨spec_k26,fun _ _=>M.det_det⟩
 split at h
 ·cases h;subst_vars;exact io_once
 split at h
 ·cases h;subst_vars;exact io_delfunc
 split at h
 ·cases h;subst_vars;exact io_search 5
 cases h
def ann_k42:Ann:=(.seq .leaf (.seq (.seq .leaf (.seq .leaf (.cond (.seq .leaf .leaf) .leaf))) (.seq .leaf (.seq .leaf (.seq .leaf (.join ⟨[(7,.loc 15 0)],[(15,.cells t79 [.val t22,.val t23,.val t24,.val t22,.val t3,.val t3,.val t3,.val t3,.val t3,.val t3,.val t3,.sub 50200,.own 30000]),(50200,.arr t39),(30000,.arr t80)]⟩ (.seq .leaf (.cond (.seq .leaf .leaf) .leaf)) (.seq .leaf (.seq (.seq .leaf (.cond (.seq .leaf .leaf) .leaf)) (.seq .leaf .leaf)))))))))
theorem l_k42 (x):funI U_k42 (tabT tab) noPhi Psi_k42 Tryz.f42 b_k42 ann_k42 (.prod t28 t75) (.prod t71 t34) x=S_hire_read fcCheck.sh shOnceIO shDel (shSearchF 5) fcVoid.sh x:=by kernel_rfl
theorem spec_k42:FnSpec Tryz.prog 42 (.prod t28 t75) (.prod t71 t34) fcRead.sh:=
 fn_ok mixOk tabOk U_k42_ok noPhi_ok Psi_k42_ok Tryz.func42 b_k42_ok (by kernel_rfl) fun x=>M.le_trans (M.le_of_eq (l_k42 x)) (sRead x)
def b_k45:Code:=Tryz.f45.body.getD .skip
theorem b_k45_ok:Tryz.f45.body=some b_k45:=by kernel_rfl
def Psi_k45 (k:Nat):Option KC:=if k=44 then some (.sc ⟨(.prod t3 (.prod t3 t3)),t4,fcWithin.sh,true⟩) else none
theorem Psi_k45_ok:PsiOk Tryz.prog noU Psi_k45:=by
 intro k c h
 unfold Psi_k45 at h
 split at h
 ·cases h;subst_vars;exact ⟨spec_k44,fun _ _=>M.det_det⟩
 cases h
def ann_k45:Ann:=(.seq .leaf (.seq .leaf .leaf))
theorem l_k45 (x):funI noU (tabT tab) noPhi Psi_k45 Tryz.f45 b_k45 ann_k45 t3 t4 x=S_hire_isMinute fcWithin.sh x:=by kernel_rfl
theorem spec_k45:FnSpec Tryz.prog 45 t3 t4 fcMinute.sh:=
 fn_ok mixOk tabOk noU_ok noPhi_ok Psi_k45_ok Tryz.func45 b_k45_ok (by kernel_rfl) fun x=>M.le_trans (M.le_of_eq (l_k45 x)) (sHMinute x)
def b_k43:Code:=Tryz.f43.body.getD .skip
theorem b_k43_ok:Tryz.f43.body=some b_k43:=by kernel_rfl
def Psi_k43 (k:Nat):Option KC:=if k=44 then some (.sc ⟨(.prod t3 (.prod t3 t3)),t4,fcWithin.sh,true⟩) else if k=45 then some (.sc ⟨t3,t4,fcMinute.sh,true⟩) else none
theorem Psi_k43_ok:PsiOk Tryz.prog noU Psi_k43:=by
 intro k c h
 unfold Psi_k43 at h
 split at h
 ·cases h;subst_vars;exact ⟨spec_k44,fun _ _=>M.det_det⟩
 split at h
 ·cases h;subst_vars;exact ⟨spec_k45,fun _ _=>M.det_det⟩
 cases h
def ann_k43:Ann:=(.seq .leaf (.seq .leaf .leaf))
theorem l_k43 (x):codeI noU (tabT tab) noPhi Psi_k43 ann_k43 b_k43 (capsSt 1 (parSt (.prod t71 (.prod (.ptr t3) (.ptr t3))) x)) (retI (tabT tab) Tryz.f43.results.toList t4)=S_hire_Where_c1 fcWithin.sh fcMinute.sh x:=by kernel_rfl
theorem spec_k43:FnSpec Tryz.prog 43 (.prod t71 (.prod (.ptr t3) (.ptr t3))) t4 fcWhere1.sh:=
 fnC_ok (n:=1) mixOk tabOk noU_ok noPhi_ok Psi_k43_ok Tryz.func43 b_k43_ok (by kernel_rfl) fun x=>M.le_req (fun h=>by obtain ⟨a,b,hf⟩:=h;exact caps_pre ⟨⟨trivial,isSome_of (congrArg (fun o=>o.1) hf)⟩,isSome_of (congrArg (fun o=>o.2) hf)⟩) (M.le_trans (M.le_of_eq (l_k43 x)) (sWhere1 x))
def b_k46:Code:=Tryz.f46.body.getD .skip
theorem b_k46_ok:Tryz.f46.body=some b_k46:=by kernel_rfl
def Psi_k46 (k:Nat):Option KC:=none
theorem Psi_k46_ok:PsiOk Tryz.prog noU Psi_k46:=by
 intro k c h
 unfold Psi_k46 at h
 cases h
def ann_k46:Ann:=(.seq .leaf (.seq .leaf (.seq .leaf (.join ⟨[(6,.loc 6 0),(8,.loc 8 0),(9,.val t4)],[(6,.whole t82),(8,.whole t82)]⟩ (.seq .leaf (.block (.loop ⟨[(2,.val t3),(6,.loc 6 0),(8,.loc 8 0),(9,.val t4),(17,.val t93),(18,.val t3),(19,.val t3)],[(6,.whole t82),(8,.whole t82)]⟩ (.seq .leaf (.seq (.cond .leaf .leaf) (.join ⟨[(2,.val t3),(6,.loc 6 0),(8,.loc 8 0),(9,.val t4),(17,.val t93),(18,.val t3),(19,.val t3)],[(6,.whole t82),(8,.whole t82)]⟩ (.block (.seq .leaf (.seq .leaf (.cond .leaf .leaf)))) .leaf)))))) (.seq .leaf .leaf)))))
theorem l_k46 (x):funI noU (tabT tab) noPhi Psi_k46 Tryz.f46 b_k46 ann_k46 (.prod t80 (.prod t3 t3)) (.prod t82 t4) x=S_hire_truth_with  x:=by kernel_rfl
theorem spec_k46:FnSpec Tryz.prog 46 (.prod t80 (.prod t3 t3)) (.prod t82 t4) fcTWith.sh:=
 fn_ok mixOk tabOk noU_ok noPhi_ok Psi_k46_ok Tryz.func46 b_k46_ok (by kernel_rfl) fun x=>M.le_trans (M.le_of_eq (l_k46 x)) (sTWith x)
def b_kkeysI:Code:=Tryz.f88.body.getD .skip
theorem b_kkeysI_ok:Tryz.f88.body=some b_kkeysI:=by kernel_rfl
def Psi_kkeysI (k:Nat):Option KC:=none
theorem Psi_kkeysI_ok:PsiOk Tryz.prog noU Psi_kkeysI:=by
 intro k c h
 unfold Psi_kkeysI at h
 cases h
def ioc_keysI:IOC:=⟨⟨[(0,.yld),(1,.pp t76),(1000000,.tr t3)],[]⟩,⟨[(1000000,.tr t3)],[]⟩,[],2,S_maps_KeysI⟩
def ann_kkeysI:Ann:=(.seq .leaf (.block (.loop ⟨[(0,.yld),(5,.iter 5),(1000000,.tr t3)],[(5,.it t3 t3)]⟩ (.seq .leaf (.seq (.cond .leaf .leaf) (.block (.seq .leaf (.seq .leaf (.cond .leaf .leaf)))))))))
theorem l_kkeysI (x):funIO noU (tabT tab) noPhi Psi_kkeysI Tryz.f88 b_kkeysI ann_kkeysI ⟨[(0,.yld),(1,.pp t76),(1000000,.tr t3)],[]⟩ ⟨[(1000000,.tr t3)],[]⟩ [] x=S_maps_KeysI  x:=by kernel_rfl
theorem io_keysI:IoSpec Tryz.prog noU 88 ioc_keysI:=
 fnIO_ok mixOk tabOk noPhi_ok Psi_kkeysI_ok Tryz.func88 b_kkeysI_ok (by kernel_rfl) fun x=>M.le_trans (M.le_of_eq (l_kkeysI x)) (M.le_refl <| S_maps_KeysI x)
theorem cit_88:CItSpec Tryz.prog 88 ⟨[t76],t3,keysS⟩:=cit_of_io (c:=ioc_keysI) io_keysI noU_ok (fun x l L=>(l,x.getD [],(l,L,[],false),())) rfl (by decide) (by simp [tupT])
 (fun x l L i hx=>by
  obtain ⟨T,hT⟩:=hx
  obtain ⟨m,hm,_⟩:=hT
  subst hm
  by_cases h0:i=0
  ·subst h0;exact .inr (.inr (.inl ⟨rfl,rfl⟩))
  ·by_cases h1:i=1
   ·subst h1;exact .inr (.inl ⟨by decide,by decide,_,_,rfl,rfl⟩)
   by_cases h2:i=TRS
   ·subst h2;exact .inr (.inr (.inr ⟨rfl,rfl⟩))
   ·refine .inl ?_
    exact (if_neg h0).trans ((if_neg h1).trans (if_neg h2)))
 rfl (fun τ=>⟨_,_,_,_,rfl⟩) (fun x l hx=>by
  obtain ⟨T,hT⟩:=hx
  obtain ⟨m,hm,_⟩:=hT
  subst hm
  have h:=sKeysIOI l m
  refine ⟨h.1,fun τ hτ l' L' p hsl=>?_⟩
  have e:AV.tr τ.1.1 t3 τ.1.2.1 τ.1.2.2.1 τ.1.2.2.2=.tr l' t3 L' p false:=hsl
  injection e with e1 e2 e3 e4 e5
  rw [←e4]
  exact h.2 τ hτ e5)
def b_k48:Code:=Tryz.f48.body.getD .skip
theorem b_k48_ok:Tryz.f48.body=some b_k48:=by kernel_rfl
def U_k48:FnTab:={ fnv:=fun k=>none,clv:=fun k=>none,itv:=fun k=>if k=88 then some ⟨[t76],t3,keysS⟩ else none }
theorem U_k48_ok:FnTabOk Tryz.prog U_k48 where
 fnv:=by
  intro k v h
  simp only [U_k48] at h
  cases h
 clv:=by
  intro k v h
  simp only [U_k48] at h
  cases h
 itv:=by
  intro k v h
  simp only [U_k48] at h
  split at h
  ·cases h;subst_vars;exact cit_88
  cases h
def Psi_k48 (k:Nat):Option KC:=none
theorem Psi_k48_ok:PsiOk Tryz.prog U_k48 Psi_k48:=by
 intro k c h
 unfold Psi_k48 at h
 cases h
def ann_k48:Ann:=(.seq .leaf (.seq .leaf .leaf))
theorem l_k48 (x):funI U_k48 (tabT tab) noPhi Psi_k48 Tryz.f48 b_k48 ann_k48 t76 t87 x=S_maps_Keys_map_int_int_int_int keysS x:=by kernel_rfl
theorem spec_k48:FnSpec Tryz.prog 48 t76 t87 fcKeysI.sh:=
 fn_ok mixOk tabOk U_k48_ok noPhi_ok Psi_k48_ok Tryz.func48 b_k48_ok (by kernel_rfl) fun x=>M.le_trans (M.le_of_eq (l_k48 x)) (sKeysI x)
def b_k14:Code:=Tryz.f14.body.getD .skip
theorem b_k14_ok:Tryz.f14.body=some b_k14:=by kernel_rfl
def U_k14:FnTab:={ fnv:=fun k=>none,clv:=fun k=>if k=43 then some ⟨[t71],[t3,t3],t4,fcWhere1.sh⟩ else none }
theorem U_k14_ok:FnTabOk Tryz.prog U_k14 where
 fnv:=by
  intro k v h
  simp only [U_k14] at h
  cases h
 clv:=by
  intro k v h
  simp only [U_k14] at h
  split at h
  ·cases h;subst_vars;exact ⟨rfl,spec_k43⟩
  cases h
def Psi_k14 (k:Nat):Option KC:=if k=42 then some (.sc ⟨(.prod t28 t75),(.prod t71 t34),fcRead.sh,true⟩) else if k=46 then some (.sc ⟨(.prod t80 (.prod t3 t3)),(.prod t82 t4),fcTWith.sh,true⟩) else if k=47 then some (.sc ⟨t87,t24,fcSorted.sh,true⟩) else if k=48 then some (.sc ⟨t76,t87,fcKeysI.sh,true⟩) else none
theorem Psi_k14_ok:PsiOk Tryz.prog U_k14 Psi_k14:=by
 intro k c h
 unfold Psi_k14 at h
 split at h
 ·cases h;subst_vars;exact ⟨spec_k42,fun _ _=>M.det_det⟩
 split at h
 ·cases h;subst_vars;exact ⟨spec_k46,fun _ _=>M.det_det⟩
 split at h
 ·cases h;subst_vars;exact ⟨spec_k47,fun _ _=>M.det_det⟩
 split at h
 ·cases h;subst_vars;exact ⟨spec_k48,fun _ _=>M.det_det⟩
 cases h
def ann_k14:Ann:=(.seq .leaf (.seq .leaf (.seq (.seq .leaf (.cond (.seq .leaf .leaf) .leaf)) (.seq .leaf (.join ⟨[(10,.mapl 24)],[(24,.mp t3 t3)]⟩ (.seq .leaf (.block (.loop ⟨[(4,.loc 4 0),(5,.loc 5 0),(10,.mapl 24),(28,.val t77),(29,.val t3),(30,.val t3)],[(4,.frzc t3),(5,.frzc t3),(24,.mp t3 t3)]⟩ (.seq .leaf (.seq (.cond .leaf .leaf) (.join ⟨[(4,.loc 4 0),(5,.loc 5 0),(10,.mapl 24),(28,.val t77),(29,.val t3),(30,.val t3)],[(4,.frzc t3),(5,.frzc t3),(24,.mp t3 t3)]⟩ (.block (.seq .leaf (.seq .leaf (.seq .leaf (.cond .leaf .leaf))))) .leaf)))))) (.seq .leaf .leaf))))))
theorem l_k14 (x):funI U_k14 (tabT tab) noPhi Psi_k14 Tryz.f14 b_k14 ann_k14 (.prod t28 (.prod t3 t3)) (.prod t24 t34) x=S_hire_Where fcRead.sh fcTWith.sh fcSorted.sh fcKeysI.sh fcWhere1.sh x:=by kernel_rfl
theorem spec_k14:FnSpec Tryz.prog 14 (.prod t28 (.prod t3 t3)) (.prod t24 t34) fcWhere.sh:=
 fn_ok mixOk tabOk U_k14_ok noPhi_ok Psi_k14_ok Tryz.func14 b_k14_ok (by kernel_rfl) fun x=>M.le_trans (M.le_of_eq (l_k14 x)) (sHWhere x)
def b_k54:Code:=Tryz.f54.body.getD .skip
theorem b_k54_ok:Tryz.f54.body=some b_k54:=by kernel_rfl
def Psi_k54 (k:Nat):Option KC:=none
theorem Psi_k54_ok:PsiOk Tryz.prog noU Psi_k54:=by
 intro k c h
 unfold Psi_k54 at h
 cases h
def ann_k54:Ann:=(.seq .leaf (.join ⟨[(4,.loc 4 0),(5,.val t4)],[(4,.whole t42)]⟩ (.seq .leaf (.block (.loop ⟨[(1,.val t95),(4,.loc 4 0),(5,.val t4),(13,.val t77),(14,.val t3),(15,.val t3)],[(4,.whole t42)]⟩ (.seq .leaf (.seq (.cond .leaf .leaf) (.join ⟨[(1,.val t95),(4,.loc 4 0),(5,.val t4),(13,.val t77),(14,.val t3),(15,.val t3)],[(4,.whole t42)]⟩ (.block (.seq .leaf (.seq .leaf (.block (.seq .leaf (.cond .leaf (.seq .leaf (.cond .leaf .leaf)))))))) .leaf)))))) (.seq .leaf .leaf)))
theorem l_k54 (x):funI noU (tabT tab) noPhi Psi_k54 Tryz.f54 b_k54 ann_k54 (.prod t71 t95) (.prod t42 t4) x=S_hire_book_span  x:=by kernel_rfl
theorem spec_k54:FnSpec Tryz.prog 54 (.prod t71 t95) (.prod t42 t4) fcSpan.sh:=
 fn_ok mixOk tabOk noU_ok noPhi_ok Psi_k54_ok Tryz.func54 b_k54_ok (by kernel_rfl) fun x=>M.le_trans (M.le_of_eq (l_k54 x)) (sSpan x)
def b_k91:Code:=Tryz.f91.body.getD .skip
theorem b_k91_ok:Tryz.f91.body=some b_k91:=by kernel_rfl
def Psi_k91 (k:Nat):Option KC:=none
theorem Psi_k91_ok:PsiOk Tryz.prog noU Psi_k91:=by
 intro k c h
 unfold Psi_k91 at h
 cases h
def ann_k91:Ann:=(.seq .leaf (.seq .leaf .leaf))
theorem l_k91 (x):codeI noU (tabT tab) noPhi Psi_k91 ann_k91 b_k91 (capsSt 1 (parSt (.prod t39 (.ptr t3)) x)) (retI (tabT tab) Tryz.f91.results.toList t4)=S_hire_lasts_c1_c1  x:=by kernel_rfl
theorem spec_k91:FnSpec Tryz.prog 91 (.prod t39 (.ptr t3)) t4 fcIsLent.sh:=
 fnC_ok (n:=1) mixOk tabOk noU_ok noPhi_ok Psi_k91_ok Tryz.func91 b_k91_ok (by kernel_rfl) fun x=>M.le_req (fun h=>by obtain ⟨f,hf,_⟩:=h;exact caps_pre ⟨trivial,isSome_of hf⟩) (M.le_trans (M.le_of_eq (l_k91 x)) (sIsLent x))
def b_k89:Code:=Tryz.f89.body.getD .skip
theorem b_k89_ok:Tryz.f89.body=some b_k89:=by kernel_rfl
def U_k89:FnTab:={ fnv:=fun k=>none,clv:=fun k=>if k=91 then some ⟨[t39],[t3],t4,fcIsLent.sh⟩ else none }
theorem U_k89_ok:FnTabOk Tryz.prog U_k89 where
 fnv:=by
  intro k v h
  simp only [U_k89] at h
  cases h
 clv:=by
  intro k v h
  simp only [U_k89] at h
  split at h
  ·cases h;subst_vars;exact ⟨rfl,spec_k91⟩
  cases h
def Psi_k89 (k:Nat):Option KC:=if k=90 then some (.sc ⟨(.prod t23 t119),t4,(fcContainsFunc tSlip).sh,true⟩) else none
theorem Psi_k89_ok:PsiOk Tryz.prog U_k89 Psi_k89:=by
 intro k c h
 unfold Psi_k89 at h
 split at h
 ·cases h;subst_vars;exact ⟨spec_k90,fun _ _=>M.det_det⟩
 cases h
def ann_k89:Ann:=(.seq .leaf (.seq .leaf .leaf))
theorem l_k89 (x):codeI U_k89 (tabT tab) noPhi Psi_k89 ann_k89 b_k89 (capsSt 1 (parSt (.prod t71 (.ptr t3)) x)) (retI (tabT tab) Tryz.f89.results.toList t4)=S_hire_lasts_c1 (fcContainsFunc tSlip).sh fcIsLent.sh x:=by kernel_rfl
theorem spec_k89:FnSpec Tryz.prog 89 (.prod t71 (.ptr t3)) t4 fcHasLent.sh:=
 fnC_ok (n:=1) mixOk tabOk U_k89_ok noPhi_ok Psi_k89_ok Tryz.func89 b_k89_ok (by kernel_rfl) fun x=>M.le_req (fun h=>by obtain ⟨_,f,hf,_⟩:=h;exact caps_pre ⟨trivial,isSome_of hf⟩) (M.le_trans (M.le_of_eq (l_k89 x)) (sHasLent x))
def b_k76:Code:=Tryz.f76.body.getD .skip
theorem b_k76_ok:Tryz.f76.body=some b_k76:=by kernel_rfl
def Psi_k76 (k:Nat):Option KC:=none
theorem Psi_k76_ok:PsiOk Tryz.prog noU Psi_k76:=by
 intro k c h
 unfold Psi_k76 at h
 cases h
def ann_k76:Ann:=(.seq .leaf (.seq .leaf (.join ⟨[(7,.val t3)],[]⟩ (.seq .leaf (.block (.loop ⟨[(1,.val t3),(2,.val t3),(7,.val t3),(14,.val t22),(15,.val t3),(16,.val t3)],[]⟩ (.seq .leaf (.seq (.cond .leaf .leaf) (.seq (.block (.seq .leaf .leaf)) .leaf)))))) (.seq .leaf .leaf))))
theorem l_k76 (x):funI noU (tabT tab) noPhi Psi_k76 Tryz.f76 b_k76 ann_k76 (.prod t28 (.prod t3 t3)) t3 x=S_hire_open  x:=by kernel_rfl
theorem spec_k76:FnSpec Tryz.prog 76 (.prod t28 (.prod t3 t3)) t3 fcMinutes.sh:=
 fn_ok mixOk tabOk noU_ok noPhi_ok Psi_k76_ok Tryz.func76 b_k76_ok (by kernel_rfl) fun x=>M.le_trans (M.le_of_eq (l_k76 x)) (sHOpen x)
def b_khires:Code:=Tryz.f94.body.getD .skip
theorem b_khires_ok:Tryz.f94.body=some b_khires:=by kernel_rfl
def Psi_khires (k:Nat):Option KC:=if k=76 then some (.sc ⟨(.prod t28 (.prod t3 t3)),t3,fcMinutes.sh,true⟩) else none
theorem Psi_khires_ok:PsiOk Tryz.prog noU Psi_khires:=by
 intro k c h
 unfold Psi_khires at h
 split at h
 ·cases h;subst_vars;exact ⟨spec_k76,fun _ _=>M.det_det⟩
 cases h
def ioc_hires:IOC:=⟨⟨[(0,.yld),(1,.pp t80),(2,.pp t71),(1000000,.tr (.prod t39 t3))],[]⟩,⟨[(1000000,.tr (.prod t39 t3))],[]⟩,[],3,(S_hire_hires_c1 fcMinutes.sh)⟩
def ann_khires:Ann:=(.seq .leaf (.block (.loop ⟨[(0,.yld),(2,.pp t71),(10,.val t94),(11,.val t3),(1000000,.tr (.prod t39 t3))],[]⟩ (.seq .leaf (.seq (.cond .leaf .leaf) (.join ⟨[(0,.yld),(2,.pp t71),(10,.val t94),(11,.val t3),(1000000,.tr (.prod t39 t3))],[]⟩ (.block (.seq .leaf (.seq .leaf (.block (.loop ⟨[(0,.yld),(2,.pp t71),(5,.val t93),(6,.val t3),(10,.val t94),(11,.val t3),(1000000,.tr (.prod t39 t3))],[]⟩ (.seq (.seq .leaf (.cond .leaf .leaf)) (.seq (.block (.seq .leaf (.cond .leaf .leaf))) .leaf))))))) .leaf))))))
theorem l_khires (x):funIO noU (tabT tab) noPhi Psi_khires Tryz.f94 b_khires ann_khires ⟨[(0,.yld),(1,.pp t80),(2,.pp t71),(1000000,.tr (.prod t39 t3))],[]⟩ ⟨[(1000000,.tr (.prod t39 t3))],[]⟩ [] x=S_hire_hires_c1 fcMinutes.sh x:=by kernel_rfl
theorem io_hires:IoSpec Tryz.prog noU 94 ioc_hires:=
 fnIO_ok mixOk tabOk noPhi_ok Psi_khires_ok Tryz.func94 b_khires_ok (by kernel_rfl) fun x=>M.le_trans (M.le_of_eq (l_khires x)) (M.le_refl <| S_hire_hires_c1 fcMinutes.sh x)
theorem cit_94:CItSpec Tryz.prog 94 ⟨[t80,t71],(.prod t39 t3),hiresS⟩:=cit_of_io (c:=ioc_hires) io_hires noU_ok (fun x l L=>(l,x.1.getD none,x.2.getD none,(l,L,[],false),())) rfl (by decide) (by simp [tupT])
 (fun x l L i hx=>by
  obtain ⟨T,hT⟩:=hx
  obtain ⟨t,b,h1,h2,hp,_⟩:=hT
  obtain ⟨x1,x2⟩:=x
  change x1=some (some t) at h1
  change x2=some (some b) at h2
  subst h1;subst h2
  by_cases h0:i=0
  ·subst h0;exact .inr (.inr (.inl ⟨rfl,rfl⟩))
  ·by_cases h1:i=1
   ·subst h1;exact .inr (.inl ⟨by decide,by decide,_,_,rfl,rfl⟩)
   by_cases h3:i=2
   ·subst h3;exact .inr (.inl ⟨by decide,by decide,_,_,rfl,rfl⟩)
   by_cases h2:i=TRS
   ·subst h2;exact .inr (.inr (.inr ⟨rfl,rfl⟩))
   ·refine .inl ?_
    exact (if_neg h0).trans ((if_neg h1).trans ((if_neg h3).trans (if_neg h2))))
 rfl (fun τ=>⟨_,_,_,_,rfl⟩) (fun x l hx=>by
  obtain ⟨T,hT⟩:=hx
  obtain ⟨t,b,h1,h2,hp,_⟩:=hT
  obtain ⟨x1,x2⟩:=x
  change x1=some (some t) at h1
  change x2=some (some b) at h2
  subst h1;subst h2
  have h:=sHiresIO l t b hp
  refine ⟨h.1,fun τ hτ l' L' p hsl=>?_⟩
  have e:AV.tr τ.1.1 (.prod t39 t3) τ.1.2.1 τ.1.2.2.1 τ.1.2.2.2=.tr l' (.prod t39 t3) L' p false:=hsl
  injection e with e1 e2 e3 e4 e5
  rw [←e4]
  exact h.2 τ hτ e5)
def b_k61:Code:=Tryz.f61.body.getD .skip
theorem b_k61_ok:Tryz.f61.body=some b_k61:=by kernel_rfl
def U_k61:FnTab:={ fnv:=fun k=>none,clv:=fun k=>none,itv:=fun k=>if k=94 then some ⟨[t80,t71],(.prod t39 t3),hiresS⟩ else none }
theorem U_k61_ok:FnTabOk Tryz.prog U_k61 where
 fnv:=by
  intro k v h
  simp only [U_k61] at h
  cases h
 clv:=by
  intro k v h
  simp only [U_k61] at h
  cases h
 itv:=by
  intro k v h
  simp only [U_k61] at h
  split at h
  ·cases h;subst_vars;exact cit_94
  cases h
def Psi_k61 (k:Nat):Option KC:=none
theorem Psi_k61_ok:PsiOk Tryz.prog U_k61 Psi_k61:=by
 intro k c h
 unfold Psi_k61 at h
 cases h
def ann_k61:Ann:=(.seq .leaf (.seq .leaf .leaf))
theorem l_k61 (x):funI U_k61 (tabT tab) noPhi Psi_k61 Tryz.f61 b_k61 ann_k61 (.prod t71 t80) t97 x=S_hire_book_hires hiresS x:=by kernel_rfl
theorem spec_k61:FnSpec Tryz.prog 61 (.prod t71 t80) t97 fcBookHires.sh:=
 fn_ok mixOk tabOk U_k61_ok noPhi_ok Psi_k61_ok Tryz.func61 b_k61_ok (by kernel_rfl) fun x=>M.le_trans (M.le_of_eq (l_k61 x)) (sBookHires x)
def b_k92:Code:=Tryz.f92.body.getD .skip
theorem b_k92_ok:Tryz.f92.body=some b_k92:=by kernel_rfl
def Psi_k92 (k:Nat):Option KC:=if k=61 then some (.sc ⟨(.prod t71 t80),t97,fcBookHires.sh,true⟩) else none
theorem Psi_k92_ok:PsiOk Tryz.prog noU Psi_k92:=by
 intro k c h
 unfold Psi_k92 at h
 split at h
 ·cases h;subst_vars;exact ⟨spec_k61,fun _ _=>M.det_det⟩
 cases h
def ann_k92:Ann:=(.seq .leaf (.seq (.seq .leaf (.block (.range ⟨[(2,.pp t3),(3,.pp t90),(5,.loc 5 0),(6,.loc 6 0)],[(5,.cells t3 [.val t3]),(6,.cells t4 [.val t4])]⟩ ⟨[(2,.pp t3),(3,.pp t90),(5,.loc 100005 0),(6,.loc 100006 0),(12,.val t39),(13,.val t3)],[(100005,.cells t3 [.val t3]),(100006,.cells t4 [.val t4])]⟩ ⟨[],[(100005,.cells t3 [.val t3]),(100006,.cells t4 [.val t4])]⟩ (.seq .leaf .leaf) (.block (.seq .leaf (.cond (.seq .leaf .leaf) .leaf)))))) (.seq .leaf .leaf)))
theorem l_k92 (x):codeI noU (tabT tab) noPhi Psi_k92 ann_k92 b_k92 (capsSt 1 (parSt (.prod t80 (.prod (.ptr t71) (.prod (.ptr t3) (.ptr t90)))) x)) (retI (tabT tab) Tryz.f92.results.toList (.prod t3 t4))=S_hire_lasts_c2 fcBookHires.sh x:=by kernel_rfl
theorem spec_k92:FnSpec Tryz.prog 92 (.prod t80 (.prod (.ptr t71) (.prod (.ptr t3) (.ptr t90)))) (.prod t3 t4) fcLast2.sh:=
 fnC_ok (n:=1) mixOk tabOk noU_ok noPhi_ok Psi_k92_ok Tryz.func92 b_k92_ok (by kernel_rfl) fun x=>M.le_req (fun h=>by obtain ⟨_,_,_,_,rfl,_⟩:=h;exact caps_pre ⟨⟨⟨trivial,rfl⟩,rfl⟩,rfl⟩) (M.le_trans (M.le_of_eq (l_k92 x)) (sLast2 x))
def b_k49:Code:=Tryz.f49.body.getD .skip
theorem b_k49_ok:Tryz.f49.body=some b_k49:=by kernel_rfl
def U_k49:FnTab:={ fnv:=fun k=>none,clv:=fun k=>if k=89 then some ⟨[t71],[t3],t4,fcHasLent.sh⟩ else if k=92 then some ⟨[t80],[t71,t3,t90],(.prod t3 t4),fcLast2.sh⟩ else none }
theorem U_k49_ok:FnTabOk Tryz.prog U_k49 where
 fnv:=by
  intro k v h
  simp only [U_k49] at h
  cases h
 clv:=by
  intro k v h
  simp only [U_k49] at h
  split at h
  ·cases h;subst_vars;exact ⟨rfl,spec_k89⟩
  split at h
  ·cases h;subst_vars;exact ⟨rfl,spec_k92⟩
  cases h
def Psi_k49 (k:Nat):Option KC:=if k=42 then some (.sc ⟨(.prod t28 t75),(.prod t71 t34),fcRead.sh,true⟩) else if k=54 then some (.sc ⟨(.prod t71 t95),(.prod t42 t4),fcSpan.sh,true⟩) else none
theorem Psi_k49_ok:PsiOk Tryz.prog U_k49 Psi_k49:=by
 intro k c h
 unfold Psi_k49 at h
 split at h
 ·cases h;subst_vars;exact ⟨spec_k42,fun _ _=>M.det_det⟩
 split at h
 ·cases h;subst_vars;exact ⟨spec_k54,fun _ _=>M.det_det⟩
 cases h
def ann_k49:Ann:=(.seq .leaf (.seq .leaf (.seq (.seq .leaf (.cond (.seq .leaf .leaf) .leaf)) (.seq .leaf (.seq (.seq .leaf (.cond (.seq .leaf .leaf) .leaf)) (.seq .leaf .leaf))))))
theorem l_k49 (x):funI U_k49 (tabT tab) noPhi Psi_k49 Tryz.f49 b_k49 ann_k49 (.prod t28 (.prod t3 t90)) (.prod t42 t34) x=S_hire_lasts fcRead.sh fcSpan.sh fcHasLent.sh fcLast2.sh x:=by kernel_rfl
theorem spec_k49:FnSpec Tryz.prog 49 (.prod t28 (.prod t3 t90)) (.prod t42 t34) fcLastsF.sh:=
 fn_ok mixOk tabOk U_k49_ok noPhi_ok Psi_k49_ok Tryz.func49 b_k49_ok (by kernel_rfl) fun x=>M.le_trans (M.le_of_eq (l_k49 x)) (sLastsF x)
def b_k51:Code:=Tryz.f51.body.getD .skip
theorem b_k51_ok:Tryz.f51.body=some b_k51:=by kernel_rfl
def Psi_k51 (k:Nat):Option KC:=none
theorem Psi_k51_ok:PsiOk Tryz.prog noU Psi_k51:=by
 intro k c h
 unfold Psi_k51 at h
 cases h
def ann_k51:Ann:=(.seq .leaf (.seq (.seq .leaf (.cond (.seq .leaf .leaf) .leaf)) (.seq .leaf .leaf)))
theorem l_k51 (x):funI noU (tabT tab) noPhi Psi_k51 Tryz.f51 b_k51 ann_k51 (.prod t26 t3) t3 x=S_hire_fee  x:=by kernel_rfl
theorem spec_k51:FnSpec Tryz.prog 51 (.prod t26 t3) t3 fcPrice.sh:=
 fn_ok mixOk tabOk noU_ok noPhi_ok Psi_k51_ok Tryz.func51 b_k51_ok (by kernel_rfl) fun x=>M.le_trans (M.le_of_eq (l_k51 x)) (sHFee x)
def b_k50:Code:=Tryz.f50.body.getD .skip
theorem b_k50_ok:Tryz.f50.body=some b_k50:=by kernel_rfl
def Psi_k50 (k:Nat):Option KC:=if k=51 then some (.sc ⟨(.prod t26 t3),t3,fcPrice.sh,true⟩) else none
theorem Psi_k50_ok:PsiOk Tryz.prog noU Psi_k50:=by
 intro k c h
 unfold Psi_k50 at h
 split at h
 ·cases h;subst_vars;exact ⟨spec_k51,fun _ _=>M.det_det⟩
 cases h
def ann_k50:Ann:=(.seq .leaf (.seq .leaf .leaf))
theorem l_k50 (x):codeI noU (tabT tab) noPhi Psi_k50 ann_k50 b_k50 (capsSt 1 (parSt (.prod t3 (.ptr t28)) x)) (retI (tabT tab) Tryz.f50.results.toList t3)=S_hire_Fee_c1 fcPrice.sh x:=by kernel_rfl
theorem spec_k50:FnSpec Tryz.prog 50 (.prod t3 (.ptr t28)) t3 fcFee1.sh:=
 fnC_ok (n:=1) mixOk tabOk noU_ok noPhi_ok Psi_k50_ok Tryz.func50 b_k50_ok (by kernel_rfl) fun x=>M.le_req (fun h=>by obtain ⟨f,hf,_⟩:=h;exact caps_pre ⟨trivial,isSome_of hf⟩) (M.le_trans (M.le_of_eq (l_k50 x)) (sFee1 x))
def b_k18:Code:=Tryz.f18.body.getD .skip
theorem b_k18_ok:Tryz.f18.body=some b_k18:=by kernel_rfl
def U_k18:FnTab:={ fnv:=fun k=>none,clv:=fun k=>if k=50 then some ⟨[t3],[t28],t3,fcFee1.sh⟩ else none }
theorem U_k18_ok:FnTabOk Tryz.prog U_k18 where
 fnv:=by
  intro k v h
  simp only [U_k18] at h
  cases h
 clv:=by
  intro k v h
  simp only [U_k18] at h
  split at h
  ·cases h;subst_vars;exact ⟨rfl,spec_k50⟩
  cases h
def Psi_k18 (k:Nat):Option KC:=if k=49 then some (.sc ⟨(.prod t28 (.prod t3 t90)),(.prod t42 t34),fcLastsF.sh,true⟩) else none
theorem Psi_k18_ok:PsiOk Tryz.prog U_k18 Psi_k18:=by
 intro k c h
 unfold Psi_k18 at h
 split at h
 ·cases h;subst_vars;exact ⟨spec_k49,fun _ _=>M.det_det⟩
 cases h
def ann_k18:Ann:=(.seq .leaf (.seq .leaf .leaf))
theorem l_k18 (x):funI U_k18 (tabT tab) noPhi Psi_k18 Tryz.f18 b_k18 ann_k18 (.prod t28 t3) (.prod t42 t34) x=S_hire_Fee fcLastsF.sh fcFee1.sh x:=by kernel_rfl
theorem spec_k18:FnSpec Tryz.prog 18 (.prod t28 t3) (.prod t42 t34) fcFee.sh:=
 fn_ok mixOk tabOk U_k18_ok noPhi_ok Psi_k18_ok Tryz.func18 b_k18_ok (by kernel_rfl) fun x=>M.le_trans (M.le_of_eq (l_k18 x)) (sHFeeF x)
def b_k53:Code:=Tryz.f53.body.getD .skip
theorem b_k53_ok:Tryz.f53.body=some b_k53:=by kernel_rfl
def Psi_k53 (k:Nat):Option KC:=if k=45 then some (.sc ⟨t3,t4,fcMinute.sh,true⟩) else none
theorem Psi_k53_ok:PsiOk Tryz.prog noU Psi_k53:=by
 intro k c h
 unfold Psi_k53 at h
 split at h
 ·cases h;subst_vars;exact ⟨spec_k45,fun _ _=>M.det_det⟩
 cases h
def ann_k53:Ann:=(.seq .leaf (.seq .leaf .leaf))
theorem l_k53 (x):codeI noU (tabT tab) noPhi Psi_k53 ann_k53 b_k53 (capsSt 1 (parSt (.prod t71 (.ptr t3)) x)) (retI (tabT tab) Tryz.f53.results.toList t4)=S_hire_Held_c1 fcMinute.sh x:=by kernel_rfl
theorem spec_k53:FnSpec Tryz.prog 53 (.prod t71 (.ptr t3)) t4 fcMinP.sh:=
 fnC_ok (n:=1) mixOk tabOk noU_ok noPhi_ok Psi_k53_ok Tryz.func53 b_k53_ok (by kernel_rfl) fun x=>M.le_req (fun h=>by obtain ⟨f,hf,_⟩:=h;exact caps_pre ⟨trivial,isSome_of hf⟩) (M.le_trans (M.le_of_eq (l_k53 x)) (sHeld1 x))
def b_k55:Code:=Tryz.f55.body.getD .skip
theorem b_k55_ok:Tryz.f55.body=some b_k55:=by kernel_rfl
def Psi_k55 (k:Nat):Option KC:=if k=46 then some (.sc ⟨(.prod t80 (.prod t3 t3)),(.prod t82 t4),fcTWith.sh,true⟩) else none
theorem Psi_k55_ok:PsiOk Tryz.prog noU Psi_k55:=by
 intro k c h
 unfold Psi_k55 at h
 split at h
 ·cases h;subst_vars;exact ⟨spec_k46,fun _ _=>M.det_det⟩
 cases h
def ann_k55:Ann:=(.seq .leaf (.seq .leaf (.join ⟨[(6,.val t3)],[]⟩ (.seq .leaf (.block (.loop ⟨[(0,.val t80),(1,.pp t3),(2,.pp t28),(6,.val t3),(10,.val t3)],[]⟩ (.seq .leaf (.seq (.cond .leaf .leaf) (.join ⟨[(0,.val t80),(1,.pp t3),(2,.pp t28),(6,.val t3),(10,.val t3)],[]⟩ (.block (.seq .leaf (.seq .leaf (.seq .leaf (.cond .leaf .leaf))))) .leaf)))))) (.seq .leaf .leaf))))
theorem l_k55 (x):codeI noU (tabT tab) noPhi Psi_k55 ann_k55 b_k55 (capsSt 1 (parSt (.prod t80 (.prod (.ptr t3) (.ptr t28))) x)) (retI (tabT tab) Tryz.f55.results.toList (.prod t3 t4))=S_hire_Held_c2 fcTWith.sh x:=by kernel_rfl
theorem spec_k55:FnSpec Tryz.prog 55 (.prod t80 (.prod (.ptr t3) (.ptr t28))) (.prod t3 t4) fcHeld2.sh:=
 fnC_ok (n:=1) mixOk tabOk noU_ok noPhi_ok Psi_k55_ok Tryz.func55 b_k55_ok (by kernel_rfl) fun x=>M.le_req (fun h=>by obtain ⟨_,_,_,rfl,_⟩:=h;exact caps_pre ⟨⟨trivial,rfl⟩,rfl⟩) (M.le_trans (M.le_of_eq (l_k55 x)) (sHeld2 x))
def b_k22:Code:=Tryz.f22.body.getD .skip
theorem b_k22_ok:Tryz.f22.body=some b_k22:=by kernel_rfl
def U_k22:FnTab:={ fnv:=fun k=>none,clv:=fun k=>if k=53 then some ⟨[t71],[t3],t4,fcMinP.sh⟩ else if k=55 then some ⟨[t80],[t3,t28],(.prod t3 t4),fcHeld2.sh⟩ else none }
theorem U_k22_ok:FnTabOk Tryz.prog U_k22 where
 fnv:=by
  intro k v h
  simp only [U_k22] at h
  cases h
 clv:=by
  intro k v h
  simp only [U_k22] at h
  split at h
  ·cases h;subst_vars;exact ⟨rfl,spec_k53⟩
  split at h
  ·cases h;subst_vars;exact ⟨rfl,spec_k55⟩
  cases h
def Psi_k22 (k:Nat):Option KC:=if k=42 then some (.sc ⟨(.prod t28 t75),(.prod t71 t34),fcRead.sh,true⟩) else if k=54 then some (.sc ⟨(.prod t71 t95),(.prod t42 t4),fcSpan.sh,true⟩) else none
theorem Psi_k22_ok:PsiOk Tryz.prog U_k22 Psi_k22:=by
 intro k c h
 unfold Psi_k22 at h
 split at h
 ·cases h;subst_vars;exact ⟨spec_k42,fun _ _=>M.det_det⟩
 split at h
 ·cases h;subst_vars;exact ⟨spec_k54,fun _ _=>M.det_det⟩
 cases h
def ann_k22:Ann:=(.seq .leaf (.seq .leaf (.seq (.seq .leaf (.cond (.seq .leaf .leaf) .leaf)) (.seq .leaf (.seq .leaf .leaf)))))
theorem l_k22 (x):funI U_k22 (tabT tab) noPhi Psi_k22 Tryz.f22 b_k22 ann_k22 (.prod t28 t3) (.prod t42 t34) x=S_hire_Held fcRead.sh fcSpan.sh fcMinP.sh fcHeld2.sh x:=by kernel_rfl
theorem spec_k22:FnSpec Tryz.prog 22 (.prod t28 t3) (.prod t42 t34) fcHeld.sh:=
 fn_ok mixOk tabOk U_k22_ok noPhi_ok Psi_k22_ok Tryz.func22 b_k22_ok (by kernel_rfl) fun x=>M.le_trans (M.le_of_eq (l_k22 x)) (sHHeld x)
def b_k66:Code:=Tryz.f66.body.getD .skip
theorem b_k66_ok:Tryz.f66.body=some b_k66:=by kernel_rfl
def Psi_k66 (k:Nat):Option KC:=if k=44 then some (.sc ⟨(.prod t3 (.prod t3 t3)),t4,fcWithin.sh,true⟩) else none
theorem Psi_k66_ok:PsiOk Tryz.prog noU Psi_k66:=by
 intro k c h
 unfold Psi_k66 at h
 split at h
 ·cases h;subst_vars;exact ⟨spec_k44,fun _ _=>M.det_det⟩
 cases h
def ann_k66:Ann:=(.seq .leaf (.seq .leaf .leaf))
theorem l_k66 (x):codeI noU (tabT tab) noPhi Psi_k66 ann_k66 b_k66 (capsSt 1 (parSt (.prod t71 (.prod (.ptr t3) (.ptr t28))) x)) (retI (tabT tab) Tryz.f66.results.toList t4)=S_hire_Watch_c1 fcWithin.sh x:=by kernel_rfl
theorem spec_k66:FnSpec Tryz.prog 66 (.prod t71 (.prod (.ptr t3) (.ptr t28))) t4 fcWatch1.sh:=
 fnC_ok (n:=1) mixOk tabOk noU_ok noPhi_ok Psi_k66_ok Tryz.func66 b_k66_ok (by kernel_rfl) fun x=>M.le_req (fun h=>by obtain ⟨_,_,h1,h2,_⟩:=h;exact caps_pre ⟨⟨trivial,isSome_of h1⟩,isSome_of h2⟩) (M.le_trans (M.le_of_eq (l_k66 x)) (sWatch1 x))
def b_k67:Code:=Tryz.f67.body.getD .skip
theorem b_k67_ok:Tryz.f67.body=some b_k67:=by kernel_rfl
def Psi_k67 (k:Nat):Option KC:=none
theorem Psi_k67_ok:PsiOk Tryz.prog noU Psi_k67:=by
 intro k c h
 unfold Psi_k67 at h
 cases h
def ann_k67:Ann:=(.seq .leaf (.seq .leaf .leaf))
theorem l_k67 (x):codeI noU (tabT tab) noPhi Psi_k67 ann_k67 b_k67 (capsSt 1 (parSt (.prod t80 (.ptr t3)) x)) (retI (tabT tab) Tryz.f67.results.toList (.prod t3 t4))=S_hire_Watch_c2  x:=by kernel_rfl
theorem spec_k67:FnSpec Tryz.prog 67 (.prod t80 (.ptr t3)) (.prod t3 t4) fcWatch2.sh:=
 fnC_ok (n:=1) mixOk tabOk noU_ok noPhi_ok Psi_k67_ok Tryz.func67 b_k67_ok (by kernel_rfl) fun x=>M.le_req (fun h=>by obtain ⟨_,_,_,hf,_⟩:=h;exact caps_pre ⟨trivial,isSome_of hf⟩) (M.le_trans (M.le_of_eq (l_k67 x)) (sWatch2 x))
def b_k28:Code:=Tryz.f28.body.getD .skip
theorem b_k28_ok:Tryz.f28.body=some b_k28:=by kernel_rfl
def U_k28:FnTab:={ fnv:=fun k=>none,clv:=fun k=>if k=66 then some ⟨[t71],[t3,t28],t4,fcWatch1.sh⟩ else if k=67 then some ⟨[t80],[t3],(.prod t3 t4),fcWatch2.sh⟩ else none }
theorem U_k28_ok:FnTabOk Tryz.prog U_k28 where
 fnv:=by
  intro k v h
  simp only [U_k28] at h
  cases h
 clv:=by
  intro k v h
  simp only [U_k28] at h
  split at h
  ·cases h;subst_vars;exact ⟨rfl,spec_k66⟩
  split at h
  ·cases h;subst_vars;exact ⟨rfl,spec_k67⟩
  cases h
def Psi_k28 (k:Nat):Option KC:=if k=42 then some (.sc ⟨(.prod t28 t75),(.prod t71 t34),fcRead.sh,true⟩) else if k=54 then some (.sc ⟨(.prod t71 t95),(.prod t42 t4),fcSpan.sh,true⟩) else none
theorem Psi_k28_ok:PsiOk Tryz.prog U_k28 Psi_k28:=by
 intro k c h
 unfold Psi_k28 at h
 split at h
 ·cases h;subst_vars;exact ⟨spec_k42,fun _ _=>M.det_det⟩
 split at h
 ·cases h;subst_vars;exact ⟨spec_k54,fun _ _=>M.det_det⟩
 cases h
def ann_k28:Ann:=(.seq .leaf (.seq .leaf (.seq (.seq .leaf (.cond (.seq .leaf .leaf) .leaf)) (.seq .leaf (.seq .leaf .leaf)))))
theorem l_k28 (x):funI U_k28 (tabT tab) noPhi Psi_k28 Tryz.f28 b_k28 ann_k28 (.prod t28 t3) (.prod t42 t34) x=S_hire_Watch fcRead.sh fcSpan.sh fcWatch1.sh fcWatch2.sh x:=by kernel_rfl
theorem spec_k28:FnSpec Tryz.prog 28 (.prod t28 t3) (.prod t42 t34) fcWatch.sh:=
 fn_ok mixOk tabOk U_k28_ok noPhi_ok Psi_k28_ok Tryz.func28 b_k28_ok (by kernel_rfl) fun x=>M.le_trans (M.le_of_eq (l_k28 x)) (sHWatch x)
end Go.Fer.Sk
namespace Go.Fer.Sk
open Go.Proofs
open M (Step)
set_option maxRecDepth 100000
set_option linter.unusedVariables false
set_option linter.unusedSimpArgs false
def b_k17:Code:=Tryz.f17.body.getD .skip
theorem b_k17_ok:Tryz.f17.body=some b_k17:=by kernel_rfl
def Psi_k17 (k:Nat):Option KC:=none
theorem Psi_k17_ok:PsiOk Tryz.prog noU Psi_k17:=by
 intro k c h
 unfold Psi_k17 at h
 cases h
def ann_k17:Ann:=(.seq .leaf (.seq (.seq .leaf (.cond (.seq .leaf .leaf) .leaf)) (.join ⟨[],[]⟩ (.seq .leaf (.block (.loop ⟨[(0,.val t24),(1,.val t24),(5,.val t3)],[]⟩ (.seq (.seq .leaf (.cond .leaf .leaf)) (.seq (.block (.seq .leaf (.cond (.seq .leaf .leaf) .leaf))) .leaf))))) (.seq .leaf .leaf))))
theorem l_k17 (x):funI noU (tabT tab) noPhi Psi_k17 Tryz.f17 b_k17 ann_k17 (.prod t24 t24) t4 x=S_law09_sameInts  x:=by kernel_rfl
theorem spec_k17:FnSpec Tryz.prog 17 (.prod t24 t24) t4 fcSameInts.sh:=
 fn_ok mixOk tabOk noU_ok noPhi_ok Psi_k17_ok Tryz.func17 b_k17_ok (by kernel_rfl) fun x=>M.le_trans (M.le_of_eq (l_k17 x)) (sSameInts9 x)
def b_k41:Code:=Tryz.f41.body.getD .skip
theorem b_k41_ok:Tryz.f41.body=some b_k41:=by kernel_rfl
def Psi_k41 (k:Nat):Option KC:=none
theorem Psi_k41_ok:PsiOk Tryz.prog noU Psi_k41:=by
 intro k c h
 unfold Psi_k41 at h
 cases h
def ann_k41:Ann:=(.seq .leaf (.seq .leaf .leaf))
theorem l_k41 (x):funI noU (tabT tab) noPhi Psi_k41 Tryz.f41 b_k41 ann_k41 .unit t28 x=S_law09_Example  x:=by kernel_rfl
theorem spec_k41:FnSpec Tryz.prog 41 .unit t28 fcExample.sh:=
 fn_ok mixOk tabOk noU_ok noPhi_ok Psi_k41_ok Tryz.func41 b_k41_ok (by kernel_rfl) fun x=>M.le_trans (M.le_of_eq (l_k41 x)) (sExample9 x)
def b_k13:Code:=Tryz.f13.body.getD .skip
theorem b_k13_ok:Tryz.f13.body=some b_k13:=by kernel_rfl
def Psi_k13 (k:Nat):Option KC:=if k=14 then some (.sc ⟨(.prod t28 (.prod t3 t3)),(.prod t24 t34),fcWhere.sh,true⟩) else if k=17 then some (.sc ⟨(.prod t24 t24),t4,fcSameInts.sh,true⟩) else if k=18 then some (.sc ⟨(.prod t28 t3),(.prod t42 t34),fcFee.sh,true⟩) else if k=22 then some (.sc ⟨(.prod t28 t3),(.prod t42 t34),fcHeld.sh,true⟩) else if k=28 then some (.sc ⟨(.prod t28 t3),(.prod t42 t34),fcWatch.sh,true⟩) else if k=41 then some (.sc ⟨.unit,t28,fcExample.sh,true⟩) else none
theorem Psi_k13_ok:PsiOk Tryz.prog noU Psi_k13:=by
 intro k c h
 unfold Psi_k13 at h
 split at h
 ·cases h;subst_vars;exact ⟨spec_k14,fun _ _=>M.det_det⟩
 split at h
 ·cases h;subst_vars;exact ⟨spec_k17,fun _ _=>M.det_det⟩
 split at h
 ·cases h;subst_vars;exact ⟨spec_k18,fun _ _=>M.det_det⟩
 split at h
 ·cases h;subst_vars;exact ⟨spec_k22,fun _ _=>M.det_det⟩
 split at h
 ·cases h;subst_vars;exact ⟨spec_k28,fun _ _=>M.det_det⟩
 split at h
 ·cases h;subst_vars;exact ⟨spec_k41,fun _ _=>M.det_det⟩
 cases h
def ann_k13:Ann:=(.seq .leaf (.seq .leaf (.seq .leaf (.seq .leaf (.seq .leaf (.seq .leaf (.seq .leaf .leaf)))))))
theorem l_k13 (x):funI noU (tabT tab) noPhi Psi_k13 Tryz.f13 b_k13 ann_k13 .unit t4 x=S_law09_works fcWhere.sh fcSameInts.sh fcFee.sh fcHeld.sh fcWatch.sh fcExample.sh x:=by kernel_rfl
theorem spec_k13:FnSpec Tryz.prog 13 .unit t4 fcWorks.sh:=
 fn_ok mixOk tabOk noU_ok noPhi_ok Psi_k13_ok Tryz.func13 b_k13_ok (by kernel_rfl) fun x=>M.le_trans (M.le_of_eq (l_k13 x)) (sWorks9 x)
def b_k25:Code:=Tryz.f25.body.getD .skip
theorem b_k25_ok:Tryz.f25.body=some b_k25:=by kernel_rfl
def Psi_k25 (k:Nat):Option KC:=if k=27 then some (.sc ⟨t28,t34,fcCheck.sh,true⟩) else none
theorem Psi_k25_ok:PsiOk Tryz.prog noU Psi_k25:=by
 intro k c h
 unfold Psi_k25 at h
 split at h
 ·cases h;subst_vars;exact ⟨spec_k27,fun _ _=>M.det_det⟩
 cases h
def ann_k25:Ann:=(.seq .leaf (.seq (.seq .leaf (.cond (.seq .leaf .leaf) .leaf)) (.seq (.seq .leaf (.cond (.seq .leaf .leaf) .leaf)) (.seq .leaf (.join ⟨[(3,.val t3)],[]⟩ (.seq .leaf (.block (.loop ⟨[(1,.loc 1 0),(3,.val t3),(4,.val t3)],[(1,.whole t28)]⟩ (.seq (.seq .leaf (.cond .leaf .leaf)) (.seq (.block .leaf) .leaf))))) (.seq .leaf .leaf))))))
theorem l_k25 (x):funI noU (tabT tab) noPhi Psi_k25 Tryz.f25 b_k25 ann_k25 t28 t4 x=S_law09_Far fcCheck.sh x:=by kernel_rfl
theorem spec_k25:FnSpec Tryz.prog 25 t28 t4 fcFar.sh:=
 fn_ok mixOk tabOk noU_ok noPhi_ok Psi_k25_ok Tryz.func25 b_k25_ok (by kernel_rfl) fun x=>M.le_trans (M.le_of_eq (l_k25 x)) (sFar9 x)
def b_k11:Code:=Tryz.f11.body.getD .skip
theorem b_k11_ok:Tryz.f11.body=some b_k11:=by kernel_rfl
def Psi_k11 (k:Nat):Option KC:=if k=25 then some (.sc ⟨t28,t4,fcFar.sh,true⟩) else if k=27 then some (.sc ⟨t28,t34,fcCheck.sh,true⟩) else none
theorem Psi_k11_ok:PsiOk Tryz.prog noU Psi_k11:=by
 intro k c h
 unfold Psi_k11 at h
 split at h
 ·cases h;subst_vars;exact ⟨spec_k25,fun _ _=>M.det_det⟩
 split at h
 ·cases h;subst_vars;exact ⟨spec_k27,fun _ _=>M.det_det⟩
 cases h
def ann_k11:Ann:=(.seq .leaf (.seq .leaf .leaf))
theorem l_k11 (x):funI noU (tabT tab) noPhi Psi_k11 Tryz.f11 b_k11 ann_k11 t28 t4 x=S_law09_ready fcFar.sh fcCheck.sh x:=by kernel_rfl
theorem spec_k11:FnSpec Tryz.prog 11 t28 t4 fcReady.sh:=
 fn_ok mixOk tabOk noU_ok noPhi_ok Psi_k11_ok Tryz.func11 b_k11_ok (by kernel_rfl) fun x=>M.le_trans (M.le_of_eq (l_k11 x)) (sReady9 x)
def b_k12:Code:=Tryz.f12.body.getD .skip
theorem b_k12_ok:Tryz.f12.body=some b_k12:=by kernel_rfl
def Psi_k12 (k:Nat):Option KC:=none
theorem Psi_k12_ok:PsiOk Tryz.prog noU Psi_k12:=by
 intro k c h
 unfold Psi_k12 at h
 cases h
def ann_k12:Ann:=(.seq .leaf (.seq .leaf .leaf))
theorem l_k12 (x):funI noU (tabT tab) noPhi Psi_k12 Tryz.f12 b_k12 ann_k12 t3 t4 x=S_law09_isMinute  x:=by kernel_rfl
theorem spec_k12:FnSpec Tryz.prog 12 t3 t4 fcMinute.sh:=
 fn_ok mixOk tabOk noU_ok noPhi_ok Psi_k12_ok Tryz.func12 b_k12_ok (by kernel_rfl) fun x=>M.le_trans (M.le_of_eq (l_k12 x)) (sMinute9 x)
def b_k16:Code:=Tryz.f16.body.getD .skip
theorem b_k16_ok:Tryz.f16.body=some b_k16:=by kernel_rfl
def Psi_k16 (k:Nat):Option KC:=none
theorem Psi_k16_ok:PsiOk Tryz.prog noU Psi_k16:=by
 intro k c h
 unfold Psi_k16 at h
 cases h
def ann_k16:Ann:=(.seq .leaf (.join ⟨[],[]⟩ (.seq .leaf (.block (.loop ⟨[(0,.val t24),(1,.val t3),(5,.val t3)],[]⟩ (.seq (.seq .leaf (.cond .leaf .leaf)) (.seq (.block (.seq .leaf (.cond (.seq .leaf .leaf) .leaf))) .leaf))))) (.seq .leaf .leaf)))
theorem l_k16 (x):funI noU (tabT tab) noPhi Psi_k16 Tryz.f16 b_k16 ann_k16 (.prod t24 t3) t4 x=S_law09_has  x:=by kernel_rfl
theorem spec_k16:FnSpec Tryz.prog 16 (.prod t24 t3) t4 fcHas.sh:=
 fn_ok mixOk tabOk noU_ok noPhi_ok Psi_k16_ok Tryz.func16 b_k16_ok (by kernel_rfl) fun x=>M.le_trans (M.le_of_eq (l_k16 x)) (sHas x)
def b_k19:Code:=Tryz.f19.body.getD .skip
theorem b_k19_ok:Tryz.f19.body=some b_k19:=by kernel_rfl
def Psi_k19 (k:Nat):Option KC:=none
theorem Psi_k19_ok:PsiOk Tryz.prog noU Psi_k19:=by
 intro k c h
 unfold Psi_k19 at h
 cases h
def ann_k19:Ann:=(.seq .leaf (.seq .leaf .leaf))
theorem l_k19 (x):funI noU (tabT tab) noPhi Psi_k19 Tryz.f19 b_k19 ann_k19 (.prod t42 t42) t4 x=S_law09_within  x:=by kernel_rfl
theorem spec_k19:FnSpec Tryz.prog 19 (.prod t42 t42) t4 fcInSpan.sh:=
 fn_ok mixOk tabOk noU_ok noPhi_ok Psi_k19_ok Tryz.func19 b_k19_ok (by kernel_rfl) fun x=>M.le_trans (M.le_of_eq (l_k19 x)) (sInSpan x)
end Go.Fer.Sk
namespace Go.Fer
open M (Step)
set_option linter.unusedVariables false
set_option linter.unusedSimpArgs false
theorem spanO_spec:∀ (l:List Int),l≠[]→∃ s,spanO l=some s∧s.1∈l∧s.2∈l∧∀ n∈l,s.1≤n∧n≤s.2:=by
 have key:∀ (l:List Int) (s:Int×Int) (P:List Int),s.1∈P→s.2∈P→(∀ n∈P,s.1≤n∧n≤s.2)→∃ s',l.foldl (fun o n=>some (widO o n)) (some s)=some s'∧s'.1∈P++l∧s'.2∈P++l∧∀ n∈P++l,s'.1≤n∧n≤s'.2:=by
  intro l
  induction l with
  | nil=>intro s P h1 h2 h3;exact ⟨s,rfl,by simpa using h1,by simpa using h2,by simpa using h3⟩
  | cons n l ih=>
   intro s P h1 h2 h3
   simp only [List.foldl_cons]
   have:=ih (min s.1 n,max s.2 n) (P++[n]) ?_ ?_ ?_
   ·simpa [widO] using this
   ·show min s.1 n∈P++[n]
    rcases Int.le_total s.1 n with h | h
    ·rw [Int.min_eq_left h];simp [h1]
    ·rw [Int.min_eq_right h];simp
   ·show max s.2 n∈P++[n]
    rcases Int.le_total s.2 n with h | h
    ·rw [Int.max_eq_right h];simp
    ·rw [Int.max_eq_left h];simp [h2]
   ·intro x hx
    show min s.1 n≤x∧x≤max s.2 n
    rcases List.mem_append.1 hx with hx | hx
    ·have:=h3 x hx;omega
    ·simp at hx;subst hx;omega
 intro l hl
 cases l with
 | nil=>exact absurd rfl hl
 | cons n l=>
  have:=key l (n,n) [n] (by simp) (by simp) (by simp)
  simpa [spanO,widO] using this
theorem spanG_spec {l:List Int} (h:l≠[]):(spanG l).1∈l∧(spanG l).2∈l∧∀ n∈l,(spanG l).1≤n∧n≤(spanG l).2:=by
 obtain ⟨s,hs,h1,h2,h3⟩:=spanO_spec l h
 unfold spanG
 rw [hs]
 exact ⟨h1,h2,h3⟩
theorem spanG_sub {l m:List Int} (hl:l≠[]) (h:∀ x∈l,x∈m):inSpan (spanG l) (spanG m)=true:=by
 have hm:m≠[]:=by
  rintro rfl
  cases l with
  | nil=>exact hl rfl
  | cons x l=>have:=h x (by simp);simp at this
 obtain ⟨a1,a2,a3⟩:=spanG_spec hl
 obtain ⟨b1,b2,b3⟩:=spanG_spec hm
 have k1:=b3 _ (h _ a1)
 have k2:=b3 _ (h _ a2)
 unfold inSpan
 simp only [Bool.and_eq_true,decide_eq_true_eq]
 omega
theorem fee_eq {c:Ctr} (h:notFar c) (n:Int):fcFee.sh (c,n)=M.pure (feeV c n):=M.det_true h _
theorem readyV_eq {c:Ctr} (h:smallC c):fcReady.sh c=M.pure (readyV c):=M.det_true h _
end Go.Fer
namespace Go.Fer
open M (Step)
set_option linter.unusedVariables false
set_option linter.unusedSimpArgs false
theorem ways_one:∀ (l:List (Int×Int)),(∀ s∈l,s.1=s.2)→waysV l=1
 | [],_=>rfl
 | s::l,h=>by
  have:=h s (by simp)
  unfold waysV
  rw [ways_one l fun x hx=>h x (by simp [hx]),this];simp
theorem tru0_one {c:Ctr} (h:∀ s∈c.1,s.1=s.2) (ht:tru0 c≠[]):∃ w,tru0 c=[w]:=by
 have:=truthsV_length c c.1 []
 rw [ways_one c.1 h] at this
 cases hT:tru0 c with
 | nil=>exact absurd hT ht
 | cons w T=>
  have h2:(truthsV c c.1 [])=w::T:=hT
  rw [h2] at this
  simp only [List.length_cons] at this
  have:T=[]:=List.eq_nil_of_length_eq_zero (by omega)
  exact ⟨w,by rw [this]⟩
theorem intR_nodup (a b:Int):(intR a b).Nodup:=by
 unfold intR
 show List.Pairwise _ _
 rw [List.pairwise_map]
 exact (List.pairwise_lt_range).imp fun h=>by omega
end Go.Fer
namespace Go.Fer
open M (Step)
set_option linter.unusedVariables false
set_option linter.unusedSimpArgs false
def fits:List (Int×Int)→List Int→Prop
 | [],[]=>True
 | s::r,n::v=>(s.1≤n∧n≤s.2)∧fits r v
 | _,_=>False
theorem mem_truths {c:Ctr}:∀ (r:List (Int×Int)) (p w:List Int),w∈truthsV c r p↔truV c w=true∧∃ v,w=p++v∧fits r v
 | [],p,w=>by
  unfold truthsV
  constructor
  ·intro h
   split at h
   ·rename_i ht
    rw [List.mem_singleton] at h
    subst h
    exact ⟨ht,[],by simp,trivial⟩
   ·simp at h
  ·rintro ⟨ht,v,rfl,hv⟩
   cases v with
   | nil=>simp only [List.append_nil] at ht ⊢;rw [if_pos ht];simp
   | cons n v=>exact absurd hv id
 | s::r,p,w=>by
  unfold truthsV
  rw [List.mem_flatMap]
  constructor
  ·rintro ⟨n,hn,h⟩
   obtain ⟨ht,v,rfl,hv⟩:=(mem_truths r _ w).1 h
   exact ⟨ht,n::v,by simp,mem_intR.1 hn,hv⟩
  ·rintro ⟨ht,v,rfl,hv⟩
   cases v with
   | nil=>exact absurd hv id
   | cons n v=>exact ⟨n,mem_intR.2 hv.1,(mem_truths r _ _).2 ⟨ht,v,by simp,hv.2⟩⟩
theorem fits_of:∀ (r:List (Int×Int)) (v:List Int),v.length=r.length→(∀ i,i<v.length→(r.getD i (0,0)).1≤v.getD i 0∧v.getD i 0≤(r.getD i (0,0)).2)→fits r v
 | [],[],_,_=>trivial
 | s::r,n::v,hl,h=>⟨h 0 (by simp),fits_of r v (by simpa using hl) fun i hi=>h (i+1) (by simpa using hi)⟩
 | [],_::_,hl,_=>by simp at hl
 | _::_,[],hl,_=>by simp at hl
theorem withinV_iff {c:Ctr} {w:List Int}:withinV c w=true↔∀ i,i<w.length→(c.1.getD i (0,0)).1≤w.getD i 0∧w.getD i 0≤(c.1.getD i (0,0)).2:=by
 unfold withinV
 rw [List.all_eq_true]
 simp only [List.mem_range,inR_iff]
theorem truV_iff {c:Ctr} {w:List Int}:truV c w=true↔(w.length=c.1.length∧withinV c w=true)∧allOk c w=true:=by
 unfold truV allOk
 simp only [Bool.and_eq_true,decide_eq_true_eq]
theorem mem_tru0 {c:Ctr} {w:List Int}:w∈tru0 c↔truV c w=true:=by
 rw [mem_truths]
 refine ⟨fun h=>h.1,fun h=>⟨h,w,rfl,?_⟩⟩
 obtain ⟨⟨h1,h2⟩,_⟩:=truV_iff.1 h
 exact fits_of _ _ h1 (withinV_iff.1 h2)
theorem known_of {c:Ctr} (hc:checkV c=0) (ht:tru0 c≠[]):knownV c true=(tru0 c,0):=by
 unfold knownV
 rw [hc];simp [ht]
theorem known_none {c:Ctr} (hc:checkV c=0) (ht:tru0 c=[]):knownV c true=([],3):=by
 unfold knownV
 rw [hc,ht];simp
theorem sub_map {α:Type} {l m:List α} {f g:α→Int} (h:∀ x∈l,x∈m) (e:∀ x∈l,f x=g x):∀ y∈l.map f,y∈m.map g:=by
 intro y hy
 obtain ⟨x,hx,rfl⟩:=List.mem_map.1 hy
 exact List.mem_map.2 ⟨x,h x hx,(e x hx).symm⟩
theorem has_eq {A:List Int} {n:Int} (h:A.length<2 ^ 63) (hm:n∈A):fcHas.sh (A,n)=M.pure true:=(M.det_true h _).trans (congrArg M.pure (by simpa using hm))
structure Less (c o:Ctr):Prop where
 hc:checkV c=0
 ho:checkV o=0
 e2:o.2=c.2
 ne:tru0 o≠[]
 sub:∀ w∈tru0 o,w∈tru0 c
section
variable {c o:Ctr}
theorem Less.nec (h:Less c o):tru0 c≠[]:=by
 intro e
 cases hT:tru0 o with
 | nil=>exact h.ne hT
 | cons w T=>
  have:=h.sub w (by rw [hT];simp)
  rw [e] at this;simp at this
theorem hires_of {c:Ctr} (hc:checkV c=0) (ht:tru0 c≠[]) (n:Int):hiresV c n=if isHireV c n=false then ([],1) else if (tru0 c).filterMap (fun w=>hireV c w n)=[] then ([],3) else ((tru0 c).filterMap fun w=>hireV c w n,0):=by
 unfold hiresV
 cases isHireV c n with
 | false=>
  have:knownV c false=([],1):=by unfold knownV;rw [hc];simp
  rw [this];simp
 | true=>rw [known_of hc ht];simp
theorem Less.fee (h:Less c o) (n:Int):(feeV o n).2=0→(feeV c n).2=0∧inSpan (feeV o n).1 (feeV c n).1=true:=by
 unfold feeV
 rw [hires_of h.hc h.nec,hires_of h.ho h.ne]
 have e1:isHireV o n=isHireV c n:=by
  obtain ⟨l,rest⟩:=o
  obtain ⟨l',rest'⟩:=c
  obtain rfl:rest=rest':=h.e2
  rfl
 have e2:∀ w,hireV o w n=hireV c w n:=by
  intro w
  obtain ⟨l,rest⟩:=o
  obtain ⟨l',rest'⟩:=c
  obtain rfl:rest=rest':=h.e2
  rfl
 rw [e1,h.e2]
 simp only [e2]
 cases isHireV c n with
 | false=>intro h;simp at h
 | true=>
  simp only [reduceCtorEq,if_false]
  by_cases hz:(tru0 o).filterMap (fun w=>hireV c w n)=[]
  ·rw [if_pos hz];intro h;simp at h
  ·rw [if_neg hz]
   intro _
   have hs:∀ m∈(tru0 o).filterMap (fun w=>hireV c w n),m∈(tru0 c).filterMap fun w=>hireV c w n:=by
    intro m hm
    obtain ⟨w,hw,e⟩:=List.mem_filterMap.1 hm
    exact List.mem_filterMap.2 ⟨w,h.sub w hw,e⟩
   have hz2:(tru0 c).filterMap (fun w=>hireV c w n)≠[]:=by
    intro e
    cases hT:(tru0 o).filterMap (fun w=>hireV c w n) with
    | nil=>exact hz hT
    | cons m T=>
     have:=hs m (by rw [hT];simp)
     rw [e] at this;simp at this
   rw [if_neg hz2]
   exact ⟨rfl,spanG_sub (by simpa using hz) (sub_map hs fun _ _=>rfl)⟩
end
theorem whereV_len (c:Ctr) (u t:Int):(whereV c u t).1.length≤101:=Nat.le_trans (List.length_filter_le _ _) (by decide)
end Go.Fer
namespace Go.Fer
open M (Step)
set_option linter.unusedVariables false
set_option linter.unusedSimpArgs false
def withU (c:Ctr) (u:Int):Ctr:=(c.1,c.2.1.filter (fun s=>decide (sUmb s=u)),c.2.2)
theorem find_filter {l:List Slip} (h:noClash l) (p:Slip→Bool) (k:Int):(l.filter p).find? (fun s=>s.1 == k)=(l.find? fun s=>s.1 == k).filter p:=by
 rw [List.find?_filter]
 cases hf:l.find? fun s=>s.1 == k with
 | none=>
  rw [List.find?_eq_none] at hf
  rw [Option.filter_none,List.find?_eq_none]
  intro x hx hx2
  simp only [decide_eq_true_eq] at hx2
  exact hf x hx hx2.2
 | some s=>
  have h1:=List.mem_of_find?_eq_some hf
  have h2:s.1=k:=by have:=List.find?_some hf;simpa using this
  have huniq:∀ x∈l,x.1=k→x=s:=fun x hx hk=>h x hx s h1 (hk.trans h2.symm)
  cases hp:p s with
  | true=>
   rw [Option.filter_some_pos hp]
   have hex:(l.find? fun x=>decide (p x=true∧(x.1 == k)=true)).isSome=true:=List.find?_isSome.2 ⟨s,h1,by simp [hp,h2]⟩
   obtain ⟨y,hy⟩:=Option.isSome_iff_exists.1 hex
   have hy1:=List.find?_some hy
   simp only [decide_eq_true_eq,beq_iff_eq] at hy1
   rw [hy,huniq y (List.mem_of_find?_eq_some hy) hy1.2]
  | false=>
   rw [Option.filter_some_neg (by simp [hp]),List.find?_eq_none]
   intro x hx hx2
   simp only [decide_eq_true_eq,beq_iff_eq] at hx2
   rw [huniq x hx hx2.2,hp] at hx2
   exact absurd hx2.1 (by simp)
theorem filterMap_filter' {α β:Type} (f:α→Option β) (p:β→Bool):∀ l:List α,(l.filterMap f).filter p=l.filterMap fun x=>(f x).filter p
 | []=>rfl
 | x::l=>by
  rw [List.filterMap_cons,List.filterMap_cons]
  cases f x with
  | none=>simpa using filterMap_filter' f p l
  | some y=>
   cases hp:p y with
   | true=>rw [Option.filter_some_pos hp];simp only [List.filter_cons_of_pos hp,filterMap_filter' f p l]
   | false=>rw [Option.filter_some_neg (by simp [hp])];simp only [List.filter_cons_of_neg (show ¬p y=true by simp [hp]),filterMap_filter' f p l]
theorem onceV_filter {l:List Slip} (h:noClash l) (p:Slip→Bool):onceV (l.filter p)=(onceV l).filter p:=by
 unfold onceV
 rw [filterMap_filter']
 exact filterMap_congr' fun k _=>find_filter h p k
theorem counts_withU {c:Ctr} (hg:Good c) (u:Int):countsV (withU c u)=(countsV c).filter fun s=>decide (sUmb s=u):=by
 show (onceV (c.2.1.filter fun s=>decide (sUmb s=u))).filter (fun s=>!c.2.2.1.contains s.1)=((onceV c.2.1).filter fun s=>!c.2.2.1.contains s.1).filter fun s=>decide (sUmb s=u)
 rw [onceV_filter hg.nc,List.filter_filter,List.filter_filter]
 exact List.filter_congr fun s _=>Bool.and_comm _ _
theorem evL_withU {c:Ctr} (hg:Good c) (w:List Int) (u:Int):evL (withU c u) w u=evL c w u:=by
 unfold evL evOf
 rw [counts_withU hg,List.filter_filter]
 have:(fun a:Slip=>decide (sUmb a=u)&&decide (sUmb a=u))=fun s=>decide (sUmb s=u):=by funext s;simp
 rw [this]
theorem evL_other {c:Ctr} (hg:Good c) (w:List Int) {u u':Int} (h:u'≠u):evL (withU c u) w u'=[]:=by
 unfold evL evOf
 rw [counts_withU hg,List.filter_filter]
 have:(fun a:Slip=>decide (sUmb a=u')&&decide (sUmb a=u))=fun _=>false:=by
  funext s
  by_cases e:sUmb s=u'
  ·simp [e,h]
  ·simp [e]
 rw [this,List.filter_eq_nil_iff.2 (by simp)];rfl
theorem check_withU {c:Ctr} (hc:checkV c=0) (u:Int):checkV (withU c u)=0:=by
 have hg:=good_of hc
 have hl:=List.length_filter_le (fun s:Slip=>decide (sUmb s=u)) c.2.1
 have e:counterV (withU c u)=true:=by
  have:=hg.cv
  unfold counterV sizeV at this ⊢
  simp only [Bool.and_eq_true,Bool.not_eq_true',Bool.or_eq_false_iff,decide_eq_false_iff_not,List.all_eq_true] at this ⊢
  obtain ⟨⟨⟨⟨⟨hz,h0⟩,h1⟩,h2⟩,h3⟩,h4⟩:=this
  exact ⟨⟨⟨⟨⟨⟨⟨⟨hz.1.1.1,by show ¬((c.2.1.filter _).length:Int) > 12;have:=hg.n2;omega⟩,hz.1.2⟩,hz.2⟩,h0⟩,h1⟩,fun s hs=>h2 s (List.mem_filter.1 hs).1⟩,h3⟩,h4⟩
 have hn:noClash (withU c u).2.1:=fun a ha b hb=>hg.nc a (List.mem_filter.1 ha).1 b (List.mem_filter.1 hb).1
 unfold checkV
 rw [if_pos e,(clashB_iff _).2 hn];rfl
theorem tru_withU {c:Ctr} (hg:Good c) {u:Int} {w:List Int} (hw:truV c w=true):truV (withU c u) w=true:=by
 rw [truV_iff] at hw ⊢
 refine ⟨hw.1,?_⟩
 have h2:=hw.2
 unfold allOk at h2 ⊢
 rw [List.all_eq_true] at h2 ⊢
 intro u' hu'
 by_cases e:u'=u
 ·subst e;rw [evL_withU hg];exact h2 u' hu'
 ·rw [evL_other hg w e];rfl
theorem findSome_one {α β:Type} {f:α→Option β} {a:α}:∀ {l:List α},a∈l→(∀ x∈l,x≠a→f x=none)→l.findSome? f=f a
 | x::l,ha,h=>by
  rw [List.findSome?_cons]
  by_cases e:x=a
  ·subst e
   cases hf:f x with
   | some y=>rfl
   | none=>
    have:∀ y∈l,f y=none:=fun y hy=>by
     by_cases e:y=x
     ·rw [e,hf]
     ·exact h y (by simp [hy]) e
    exact List.findSome?_eq_none_iff.2 this
  ·rw [h x (by simp) e]
   rcases List.mem_cons.1 ha with rfl | ha
   ·exact absurd rfl e
   ·exact findSome_one ha fun y hy=>h y (by simp [hy])
theorem hireV_umb {c:Ctr} {u:Int} (hu:0≤u∧u≤9) {n:Int} (hn:∀ s∈countsV c,s.1=n→sUmb s=u) (w:List Int):hireV c w n=hireIn c.2.2.2.1 n (truL c w u):=by
 unfold hireV
 refine findSome_one (mem_intR.2 hu) fun u' hu' hne=>?_
 cases hh:hireIn c.2.2.2.1 n (truL c w u') with
 | none=>rfl
 | some m=>
  exfalso
  obtain ⟨i,hi,h1,_,_⟩:=hireIn_some hh
  have hm:=mem_evL (truL_mem (List.getElem_mem (by omega:i<(truL c w u').length)))
  exact hne (hm.2.1.symm.trans (hn _ hm.1 h1))
theorem any_own {l:List Slip} {u n:Int}:∀ (b:Bool×List Slip),l.foldl (fun (b:Bool×List Slip) s=>if decide (sUmb s=u)=true then (b.1||decide (s.1=n),b.2++[s]) else b) b=(b.1||l.any fun s=>decide (sUmb s=u)&&decide (s.1=n),b.2++l.filter fun s=>decide (sUmb s=u)):=by
 induction l with
 | nil=>intro b;simp
 | cons s l ih=>
  intro b
  simp only [List.foldl_cons]
  rw [ih]
  by_cases h:sUmb s=u
  ·simp [h,Bool.or_assoc]
  ·simp [h]
theorem loop_has4 {A B C:Type} {τ ρ:Type} {body:List Int×A×B×Int×τ→M (Step (List Int×A×B×Int×τ) ρ)} {L:List Int} {a:A} {b:B} {z:τ} (fin:ρ)
  (hs:∀ i,(h:i<L.length)→body (L,a,b,(i:Int),z)=M.pure (.next (L,a,b,((i+1:Nat):Int),z)))
  (hf:body (L,a,b,(L.length:Int),z)=M.pure (.done fin)):M.loop body (L,a,b,0,z)=M.pure fin:=by
 rw [M.loop_listT L (fun i (_:Unit)=>(L,a,b,(i:Int),z)) (fun _ u=>.next u) (fun _=>fin) () ?_ ?_ ?_,foldS_next]
 ·rfl
 ·exact fun i h u=>hs i h
 ·exact fun u=>hf
theorem foldl_and {α:Type} (p:α→Bool):∀ (l:List α) (b:Bool),l.foldl (fun b x=>b&&p x) b=(b&&l.all p)
 | [],b=>by simp
 | x::l,b=>by simp only [List.foldl_cons,List.all_cons];rw [foldl_and p l,Bool.and_assoc]
structure Alone (c o:Ctr) (u t n:Int) (own:Bool):Prop where
 nf:notFar o
 w2:(whereV o u t).2=0
 ln:(whereV c u t).1.length≤(whereV o u t).1.length
 sub:∀ x∈(whereV c u t).1,x∈(whereV o u t).1
 kn:(c.1.all fun s=>decide (s.1=s.2))=true→(whereV c u t).1=(whereV o u t).1
 fee:own=true→((feeV c n).2≠0∨(feeV o n).2=0∧inSpan (feeV c n).1 (feeV o n).1=true)∧((c.1.all fun s=>decide (s.1=s.2))=true→feeV c n=feeV o n)
theorem alone_of {c:Ctr} (hn:notFar c) (hc:checkV c=0) {u t:Int} (hu:0≤u∧u≤9) (ht:0≤t∧t≤9999) (hne:tru0 c≠[]) (n:Int):Alone c (withU c u) u t n (c.2.1.any fun s=>decide (sUmb s=u)&&decide (s.1=n)):=by
 have hg:=good_of hc
 have ho:=check_withU hc u
 have hgo:=good_of ho
 have hsub:∀ w∈tru0 c,w∈tru0 (withU c u):=fun w hw=>mem_tru0.2 (tru_withU hg (mem_tru0.1 hw))
 have hneo:tru0 (withU c u)≠[]:=by
  intro e
  cases hT:tru0 c with
  | nil=>exact hne hT
  | cons w T=>have:=hsub w (by rw [hT];simp);rw [e] at this;simp at this
 have hwo:whereOk u t=true:=by unfold whereOk;rw [inR_iff.2 hu,inR_iff.2 ht];rfl
 have etl:∀ w,truL (withU c u) w u=truL c w u:=fun w=>by unfold truL;rw [evL_withU hg]
 have ewc:whereV c u t=((intR (-1) 99).filter fun g=>((tru0 c).map fun w=>(withV (truL c w u) t).1).contains g,0):=by
  unfold whereV foundV
  rw [hwo,known_of hc hne]
 have ewo:whereV (withU c u) u t=((intR (-1) 99).filter fun g=>((tru0 (withU c u)).map fun w=>(withV (truL c w u) t).1).contains g,0):=by
  unfold whereV foundV
  rw [hwo,known_of ho hneo]
  simp only [etl]
 have hs:∀ x∈(whereV c u t).1,x∈(whereV (withU c u) u t).1:=by
  rw [ewc,ewo]
  intro x hx
  rw [List.mem_filter] at hx ⊢
  refine ⟨hx.1,?_⟩
  simp only [List.contains_iff_mem] at hx ⊢
  exact sub_map hsub (fun _ _=>rfl) x hx.2
 have hone:(c.1.all fun s=>decide (s.1=s.2))=true→tru0 c=tru0 (withU c u):=by
  intro hk
  have hk2:∀ s∈c.1,s.1=s.2:=fun s hs=>by simpa using List.all_eq_true.1 hk s hs
  obtain ⟨w,hw⟩:=tru0_one hk2 hne
  obtain ⟨w',hw'⟩:=tru0_one (c:=withU c u) hk2 hneo
  have:=hsub w (by rw [hw];simp)
  rw [hw'] at this
  rw [hw,hw',List.mem_singleton.1 this]
 refine ⟨⟨⟨hn.1.1,Nat.le_trans (List.length_filter_le _ _) hn.1.2.1,hn.1.2.2⟩,fun _=>hn.2 hc⟩,by rw [ewo],?_,hs,fun hk=>by rw [ewc,ewo,hone hk],fun hown=>?_⟩
 ·have hnd:(whereV c u t).1.Nodup:=by
   rw [ewc]
   exact (intR_nodup _ _).filter _
  exact hnd.length_le_of_subset hs
 ·obtain ⟨s,hs1,hs2⟩:=List.any_eq_true.1 hown
  simp only [Bool.and_eq_true,decide_eq_true_eq] at hs2
  have hcn:∀ x∈countsV c,x.1=n→sUmb x=u:=fun x hx e=>by
   rw [hg.nc x (mem_countsV hx) s hs1 (e.trans hs2.2.symm)];exact hs2.1
  have hon:∀ x∈countsV (withU c u),x.1=n→sUmb x=u:=fun x hx _=>by
   rw [counts_withU hg] at hx
   simpa using (List.mem_filter.1 hx).2
  have eh:∀ w,hireV (withU c u) w n=hireV c w n:=fun w=>by
   rw [hireV_umb hu hcn,hireV_umb hu hon,etl];rfl
  have ei:isHireV (withU c u) n=isHireV c n:=by
   unfold isHireV
   rw [counts_withU hg,Bool.eq_iff_iff,List.any_eq_true,List.any_eq_true]
   constructor
   ·rintro ⟨x,hx,h⟩;exact ⟨x,(List.mem_filter.1 hx).1,h⟩
   ·rintro ⟨x,hx,h⟩
    refine ⟨x,List.mem_filter.2 ⟨hx,?_⟩,h⟩
    simp only [Bool.and_eq_true,beq_iff_eq] at h
    simpa using hcn x hx h.1
  have ehc:=hires_of hc hne n
  have eho:=hires_of ho hneo n
  rw [ei] at eho
  simp only [eh] at eho
  refine ⟨?_,fun hk=>?_⟩
  ·unfold feeV
   rw [ehc,eho]
   cases isHireV c n with
   | false=>left;simp
   | true=>
    simp only [reduceCtorEq,if_false]
    by_cases hz:(tru0 c).filterMap (fun w=>hireV c w n)=[]
    ·left;rw [if_pos hz];simp
    ·right
     have hs3:∀ m∈(tru0 c).filterMap (fun w=>hireV c w n),m∈(tru0 (withU c u)).filterMap fun w=>hireV c w n:=by
      intro m hm
      obtain ⟨w,hw,e⟩:=List.mem_filterMap.1 hm
      exact List.mem_filterMap.2 ⟨w,hsub w hw,e⟩
     have hz2:(tru0 (withU c u)).filterMap (fun w=>hireV c w n)≠[]:=by
      intro e
      cases hT:(tru0 c).filterMap (fun w=>hireV c w n) with
      | nil=>exact hz hT
      | cons m T=>
       have:=hs3 m (by rw [hT];simp)
       rw [e] at this;simp at this
     rw [if_neg hz,if_neg hz2]
     exact ⟨rfl,spanG_sub (by simpa using hz) (sub_map hs3 fun _ _=>rfl)⟩
  ·unfold feeV
   rw [ehc,eho,hone hk];rfl
set_option maxHeartbeats 4000000 in
theorem lawAlone (x:Ctr×Int×Int×Int×Int×Int) (h:smallC x.1):S_law09_HireAlone fcReady.sh fcMinute.sh fcWorks.sh fcWhere.sh fcCopy.sh fcHas.sh fcSameInts.sh fcFee.sh fcInSpan.sh x=M.pure true:=by
 obtain ⟨c,xc,n,g,u,t⟩:=x
 change smallC c at h
 unfold S_law09_HireAlone
 rw [readyV_eq h,M.bind_pure,show fcMinute.sh t=M.pure (inR t 0 9999) from rfl,M.gdo_pure,M.bind_pure]
 cases hr:readyV c with
 | false=>simp [works_eq]
 | true=>
 cases ht:inR t 0 9999 with
 | false=>simp [works_eq]
 | true=>
 by_cases hu:0≤u∧u≤9
 ·obtain ⟨hn,hc⟩:=ready_of hr
  have hg:=good_of hc
  have htm:=inR_iff.1 ht
  rw [if_neg (by simp [show ¬u<0 by omega,show ¬9<u by omega])]
  rw [show fcWhere.sh (c,u,t)=M.pure (whereV c u t) from M.det_true hn _,M.bind_pure]
  have hwo:whereOk u t=true:=by unfold whereOk;rw [inR_iff.2 hu,ht];rfl
  by_cases hne:tru0 c=[]
  ·have e3:(whereV c u t).2=3:=by unfold whereV;rw [hwo,known_none hc hne]
   rw [e3];simp [works_eq]
  ·have e0:(whereV c u t).2=0:=by unfold whereV;rw [hwo,known_of hc hne]
   have hA:=alone_of hn hc hu htm hne n
   rw [if_neg (by rw [e0];simp),copy_eq hn,M.bind_pure]
   have hl2:=hg.n2
   have hl1:=hg.n1
   simp only [Prod.q5,Prod.q6,Prod.q7,Prod.q8,Prod.q9]
   rw [M.loop_list c.2.1 (fun i (b:Bool×List Slip)=>((whereV c u t).1,b.1,(i:Int),c,(xc,n,g,u,t),c.1,c.2.2.1,c.2.2.2.1,c.2.2.2.2.1,c.2.2.2.2.2.1,c.2.2.2.2.2.2.1,c.2.2.2.2.2.2.2.1,c.2.2.2.2.2.2.2.2.1,c.2.2.2.2.2.2.2.2.2.1,c.2.2.2.2.2.2.2.2.2.2,b.2,())) (fun s b=>.next (if decide (sUmb s=u)=true then (b.1||decide (s.1=n),b.2++[s]) else b)) (fun b=>.next ((whereV c u t).1,b.1,c,(xc,n,g,u,t),c.1,c.2.2.1,c.2.2.2.1,c.2.2.2.2.1,c.2.2.2.2.2.1,c.2.2.2.2.2.2.1,c.2.2.2.2.2.2.2.1,c.2.2.2.2.2.2.2.2.1,c.2.2.2.2.2.2.2.2.2.1,c.2.2.2.2.2.2.2.2.2.2,b.2,())) (fun i b=>b.2.length≤i) (false,[]) ?_ (by simp) ?_ ?_]
   ·rw [foldS_next,any_own,M.bind_pure,M.go_next]
    simp only [Bool.false_or,List.nil_append,Prod.q5,Prod.q6,Prod.q7,Prod.q8,Prod.q9,Prod.q10,Prod.q11,Prod.q12,Prod.q13,Prod.q14]
    have ho:((c.1,c.2.1.filter (fun s=>decide (sUmb s=u)),c.2.2.1,c.2.2.2.1,c.2.2.2.2.1,c.2.2.2.2.2.1,c.2.2.2.2.2.2.1,c.2.2.2.2.2.2.2.1,c.2.2.2.2.2.2.2.2.1,c.2.2.2.2.2.2.2.2.2.1,c.2.2.2.2.2.2.2.2.2.2):Ctr)=withU c u:=rfl
    rw [ho]
    generalize hown:(c.2.1.any fun s=>decide (sUmb s=u)&&decide (s.1=n))=own at *
    have hfs:(c.2.1.filter fun s=>decide (sUmb s=u))=(withU c u).2.1:=rfl
    have hw1:(withU c u).1=c.1:=rfl
    have hw3:(withU c u).2.2=c.2.2:=rfl
    rw [hfs]
    generalize withU c u=o at *
    have l1:=whereV_len c u t
    have l2:=whereV_len o u t
    rw [show fcWhere.sh (o,u,t)=M.pure (whereV o u t) from M.det_true hA.nf _,M.bind_pure]
    rw [if_neg (by have:=hA.ln;simp only [ofNat_def,hA.w2,Bool.or_eq_true,decide_eq_true_eq];omega)]
    rw [loop_has4 (C:=Unit) (.next ((whereV c u t).1,own,(whereV o u t).1,c,(xc,n,g,u,t),c.1,c.2.2.1,c.2.2.2.1,c.2.2.2.2.1,c.2.2.2.2.2.1,c.2.2.2.2.2.2.1,c.2.2.2.2.2.2.2.1,c.2.2.2.2.2.2.2.2.1,c.2.2.2.2.2.2.2.2.2.1,c.2.2.2.2.2.2.2.2.2.2,o.2.1,())) ?_ ?_]
    ·rw [M.bind_pure,M.go_next]
     simp only [Prod.q5,Prod.q6,Prod.q7,Prod.q8,Prod.q9,Prod.q10,Prod.q11,Prod.q12,Prod.q13,Prod.q14,Prod.q15]
     rw [M.loop_listT c.1 (fun i (b:Bool)=>((whereV c u t).1,own,(whereV o u t).1,b,(i:Int),c,(xc,n,g,u,t),c.1,c.2.2.1,c.2.2.2.1,c.2.2.2.2.1,c.2.2.2.2.2.1,c.2.2.2.2.2.2.1,c.2.2.2.2.2.2.2.1,c.2.2.2.2.2.2.2.2.1,c.2.2.2.2.2.2.2.2.2.1,c.2.2.2.2.2.2.2.2.2.2,o.2.1,())) (fun s b=>.next (b&&decide (s.1=s.2))) (fun b=>.next ((whereV c u t).1,own,(whereV o u t).1,b,c,(xc,n,g,u,t),c.1,c.2.2.1,c.2.2.2.1,c.2.2.2.2.1,c.2.2.2.2.2.1,c.2.2.2.2.2.2.1,c.2.2.2.2.2.2.2.1,c.2.2.2.2.2.2.2.2.1,c.2.2.2.2.2.2.2.2.2.1,c.2.2.2.2.2.2.2.2.2.2,o.2.1,())) true ?_ ?_ ?_]
     ·rw [foldS_next,foldl_and,Bool.true_and,M.bind_pure,M.go_next]
      simp only [Prod.q5,Prod.q6,Prod.q7,Prod.q8,Prod.q9,Prod.q10,Prod.q11,Prod.q12,Prod.q13,Prod.q14,Prod.q15,Prod.q16]
      have eo:((c.1,o.2.1,c.2.2.1,c.2.2.2.1,c.2.2.2.2.1,c.2.2.2.2.2.1,c.2.2.2.2.2.2.1,c.2.2.2.2.2.2.2.1,c.2.2.2.2.2.2.2.2.1,c.2.2.2.2.2.2.2.2.2.1,c.2.2.2.2.2.2.2.2.2.2):Ctr)=o:=Prod.ext hw1.symm (Prod.ext rfl hw3.symm)
      rw [eo,show fcSameInts.sh ((whereV c u t).1,(whereV o u t).1)=M.pure (decide ((whereV c u t).1=(whereV o u t).1)) from M.det_true ⟨show (whereV c u t).1.length<2 ^ 63 by omega,show (whereV o u t).1.length<2 ^ 63 by omega⟩ _,M.gdo_pure,M.bind_pure,fee_eq hn,M.bind_pure,fee_eq hA.nf,M.bind_pure]
      have hkn:=hA.kn
      have hfe:=hA.fee
      generalize (c.1.all fun s=>decide (s.1=s.2))=kn at *
      rw [if_neg (by cases kn with
       | false=>simp
       | true=>simp [hkn rfl])]
      cases own with
      | false=>simp [works_eq]
      | true=>
       obtain ⟨f1,f2⟩:=hfe rfl
       rw [if_neg (by simp),show fcInSpan.sh ((feeV c n).1,(feeV o n).1)=M.pure (inSpan (feeV c n).1 (feeV o n).1) from rfl,works_eq]
       simp only [M.gdo_pure,M.bind_pure]
       cases kn with
       | false=>
        rcases f1 with f1 | ⟨f1,f3⟩
        ·simp [f1]
        ·by_cases hz:(feeV c n).2=0<;>simp [hz,f1,f3]
       | true=>
        have e:=f2 rfl
        rw [←e] at f1 ⊢
        by_cases hz:(feeV c n).2=0
        ·rcases f1 with f1 | ⟨_,f3⟩
         ·exact absurd hz f1
         ·simp [hz,f3]
        ·simp [hz]
     ·rfl
     ·intro i hi b
      have hwi:=wrap64 (n:=(i:Int)+1) (by omega) (by omega)
      simp only [Prod.q5,Prod.q6,Prod.q7,Prod.q8,Prod.q9,Prod.q10,Prod.q11,Prod.q12,Prod.q13,Prod.q14,Prod.q15,Prod.q16,Prod.q17,ofNat_def,lt_len hi,if_true,getD_nat hi,in_len hi,M.req_True,add_def,hwi]
      cases b<;>simp [Step.mapN]
     ·intro b
      simp [Prod.q5,Prod.q6,Prod.q7,Prod.q8,Prod.q9,Prod.q10,Prod.q11,Prod.q12,Prod.q13,Prod.q14,Prod.q15,Prod.q16,Prod.q17]
    ·intro i hi
     have hwi:=wrap64 (n:=(i:Int)+1) (by omega) (by omega)
     simp only [Prod.q5,Prod.q6,Prod.q7,Prod.q8,Prod.q9,Prod.q10,Prod.q11,Prod.q12,Prod.q13,Prod.q14,Prod.q15,Prod.q16,ofNat_def,lt_len hi,if_true,getD_nat hi,in_len hi,M.req_True,add_def,hwi]
     rw [has_eq (by omega) (hA.sub _ (List.getElem_mem hi)),M.bind_pure]
     rfl
    ·simp [Prod.q5,Prod.q6,Prod.q7,Prod.q8,Prod.q9,Prod.q10,Prod.q11,Prod.q12,Prod.q13,Prod.q14,Prod.q15,Prod.q16]
   ·rfl
   ·intro i hi b hb
    have hwi:=wrap64 (n:=(i:Int)+1) (by omega) (by omega)
    refine ⟨?_,fun b' hb'=>?_⟩
    ·simp only [Prod.q5,Prod.q6,Prod.q7,Prod.q8,Prod.q9,Prod.q10,Prod.q11,Prod.q12,Prod.q13,Prod.q14,Prod.q15,ofNat_def,lt_len hi,if_true,getD_nat hi,in_len hi,M.req_True,add_def,hwi]
     by_cases hs:sUmb c.2.1[i]=u
     ·have hs':c.2.1[i].2.2.2.2.1=u:=hs
      simp only [hs,hs',decide_true,if_true]
      rw [M.req_true (lenLe_of (by simp only [add_defN];omega))]
      cases b.1<;>simp [hwi,Step.mapN]
     ·have hs':¬c.2.1[i].2.2.2.2.1=u:=hs
      simp only [hs,hs',decide_false,Bool.false_eq_true,if_false,M.bind_pure,M.go_next,hwi,Step.mapN]
      rfl
    ·simp only [Step.next.injEq] at hb'
     subst hb'
     split
     ·simp;omega
     ·omega
   ·intro b hb
    simp [Prod.q5,Prod.q6,Prod.q7,Prod.q8,Prod.q9,Prod.q10,Prod.q11,Prod.q12,Prod.q13,Prod.q14,Prod.q15]
 ·rw [if_pos (Decidable.byContradiction fun hn=>hu (by simp only [Bool.or_eq_true,decide_eq_true_eq,not_or] at hn;omega)),works_eq,M.bind_pure]
end Go.Fer
namespace Go.Fer.Sk
open Go.Proofs
open M (Step)
set_option maxRecDepth 100000
set_option linter.unusedVariables false
set_option linter.unusedSimpArgs false
def b_k3:Code:=Tryz.f3.body.getD .skip
theorem b_k3_ok:Tryz.f3.body=some b_k3:=by kernel_rfl
def Psi_k3 (k:Nat):Option KC:=if k=11 then some (.sc ⟨t28,t4,fcReady.sh,true⟩) else if k=12 then some (.sc ⟨t3,t4,fcMinute.sh,true⟩) else if k=13 then some (.sc ⟨.unit,t4,fcWorks.sh,true⟩) else if k=14 then some (.sc ⟨(.prod t28 (.prod t3 t3)),(.prod t24 t34),fcWhere.sh,true⟩) else if k=15 then some (.sc ⟨t28,t28,fcCopy.sh,true⟩) else if k=16 then some (.sc ⟨(.prod t24 t3),t4,fcHas.sh,true⟩) else if k=17 then some (.sc ⟨(.prod t24 t24),t4,fcSameInts.sh,true⟩) else if k=18 then some (.sc ⟨(.prod t28 t3),(.prod t42 t34),fcFee.sh,true⟩) else if k=19 then some (.sc ⟨(.prod t42 t42),t4,fcInSpan.sh,true⟩) else none
theorem Psi_k3_ok:PsiOk Tryz.prog noU Psi_k3:=by
 intro k c h
 unfold Psi_k3 at h
 by_cases e:k=11
 ·rw [if_pos e] at h;cases h;subst e;exact ⟨spec_k11,fun _ _=>M.det_det⟩
 rw [if_neg e] at h;clear e
 by_cases e:k=12
 ·rw [if_pos e] at h;cases h;subst e;exact ⟨spec_k12,fun _ _=>M.det_det⟩
 rw [if_neg e] at h;clear e
 by_cases e:k=13
 ·rw [if_pos e] at h;cases h;subst e;exact ⟨spec_k13,fun _ _=>M.det_det⟩
 rw [if_neg e] at h;clear e
 by_cases e:k=14
 ·rw [if_pos e] at h;cases h;subst e;exact ⟨spec_k14,fun _ _=>M.det_det⟩
 rw [if_neg e] at h;clear e
 by_cases e:k=15
 ·rw [if_pos e] at h;cases h;subst e;exact ⟨spec_k15,fun _ _=>M.det_det⟩
 rw [if_neg e] at h;clear e
 by_cases e:k=16
 ·rw [if_pos e] at h;cases h;subst e;exact ⟨spec_k16,fun _ _=>M.det_det⟩
 rw [if_neg e] at h;clear e
 by_cases e:k=17
 ·rw [if_pos e] at h;cases h;subst e;exact ⟨spec_k17,fun _ _=>M.det_det⟩
 rw [if_neg e] at h;clear e
 by_cases e:k=18
 ·rw [if_pos e] at h;cases h;subst e;exact ⟨spec_k18,fun _ _=>M.det_det⟩
 rw [if_neg e] at h;clear e
 by_cases e:k=19
 ·rw [if_pos e] at h;cases h;subst e;exact ⟨spec_k19,fun _ _=>M.det_det⟩
 rw [if_neg e] at h;clear e
 cases h
def ann_k3:Ann:=(.seq .leaf (.seq (.seq .leaf (.cond (.seq .leaf .leaf) .leaf)) (.seq .leaf (.seq (.seq .leaf (.cond (.seq .leaf .leaf) .leaf)) (.seq .leaf (.seq .leaf (.seq .leaf (.join ⟨[(2,.loc 2 0),(3,.loc 3 0),(5,.val t24),(7,.loc 7 0),(8,.val t4)],[(2,.whole t28),(3,.whole t30),(7,.cells t28 [.val t22,.own 82,.val t24,.val t22,.val t3,.val t3,.val t3,.val t3,.val t3,.val t3,.val t3]),(82,.arr t39)]⟩ (.seq .leaf (.block (.loop ⟨[(2,.loc 2 0),(3,.loc 3 0),(5,.val t24),(7,.loc 7 0),(8,.val t4),(9,.val t3)],[(2,.whole t28),(3,.whole t30),(7,.cells t28 [.val t22,.own 82,.val t24,.val t22,.val t3,.val t3,.val t3,.val t3,.val t3,.val t3,.val t3]),(82,.arr t39)]⟩ (.seq (.seq .leaf (.cond .leaf .leaf)) (.join ⟨[(2,.loc 2 0),(3,.loc 3 0),(5,.val t24),(7,.loc 7 0),(8,.val t4),(9,.val t3)],[(2,.whole t28),(3,.whole t30),(7,.cells t28 [.val t22,.own 82,.val t24,.val t22,.val t3,.val t3,.val t3,.val t3,.val t3,.val t3,.val t3]),(82,.arr t39)]⟩ (.block (.seq .leaf (.cond (.seq .leaf .leaf) .leaf))) .leaf))))) (.seq .leaf (.seq (.seq .leaf (.cond (.seq .leaf .leaf) .leaf)) (.join ⟨[(2,.loc 2 0),(3,.loc 3 0),(5,.val t24),(7,.loc 7 0),(8,.val t4),(10,.val t24)],[(2,.whole t28),(3,.whole t30),(7,.cells t28 [.val t22,.own 82,.val t24,.val t22,.val t3,.val t3,.val t3,.val t3,.val t3,.val t3,.val t3]),(82,.froz t39)]⟩ (.seq .leaf (.block (.loop ⟨[(2,.loc 2 0),(3,.loc 3 0),(5,.val t24),(7,.loc 7 0),(8,.val t4),(10,.val t24),(12,.val t3)],[(2,.whole t28),(3,.whole t30),(7,.cells t28 [.val t22,.own 82,.val t24,.val t22,.val t3,.val t3,.val t3,.val t3,.val t3,.val t3,.val t3]),(82,.froz t39)]⟩ (.seq (.seq .leaf (.cond .leaf .leaf)) (.seq (.block (.seq .leaf (.cond (.seq .leaf .leaf) .leaf))) .leaf))))) (.seq .leaf (.join ⟨[(2,.loc 2 0),(3,.loc 3 0),(5,.val t24),(7,.loc 7 0),(8,.val t4),(10,.val t24),(13,.val t4)],[(2,.whole t28),(3,.whole t30),(7,.cells t28 [.val t22,.own 82,.val t24,.val t22,.val t3,.val t3,.val t3,.val t3,.val t3,.val t3,.val t3]),(82,.froz t39)]⟩ (.seq .leaf (.block (.loop ⟨[(2,.loc 2 0),(3,.loc 3 0),(5,.val t24),(7,.loc 7 0),(8,.val t4),(10,.val t24),(13,.val t4),(14,.val t3)],[(2,.whole t28),(3,.whole t30),(7,.cells t28 [.val t22,.own 82,.val t24,.val t22,.val t3,.val t3,.val t3,.val t3,.val t3,.val t3,.val t3]),(82,.froz t39)]⟩ (.seq (.seq .leaf (.cond .leaf .leaf)) (.seq (.block .leaf) .leaf))))) (.seq (.seq .leaf (.cond (.seq .leaf .leaf) .leaf)) (.seq .leaf (.seq .leaf (.seq (.seq .leaf (.cond (.seq .leaf .leaf) .leaf)) (.seq .leaf .leaf))))))))))))))))))
theorem l_k3 (x):funI noU (tabT tab) noPhi Psi_k3 Tryz.f3 b_k3 ann_k3 (.prod t28 t30) t4 x=S_law09_HireAlone fcReady.sh fcMinute.sh fcWorks.sh fcWhere.sh fcCopy.sh fcHas.sh fcSameInts.sh fcFee.sh fcInSpan.sh x:=by kernel_rfl
theorem spec_k3:FnSpec Tryz.prog 3 (.prod t28 t30) t4 (fun x=>S_law09_HireAlone fcReady.sh fcMinute.sh fcWorks.sh fcWhere.sh fcCopy.sh fcHas.sh fcSameInts.sh fcFee.sh fcInSpan.sh x):=
 fn_ok mixOk tabOk noU_ok noPhi_ok Psi_k3_ok Tryz.func3 b_k3_ok (by kernel_rfl) fun x=>M.le_of_eq (l_k3 x)
end Go.Fer.Sk
