/- Part 6 of the proof of HireOrder: shallow programs of Go functions, and what they compute. No condition. -/
import Derived.Test.YtjacmbbmcjdphaaGreatHireOrderE
noncomputable section
namespace Go.Fer.Sk
open Go.Proofs
open M (Step)
set_option maxRecDepth 100000
set_option linter.unusedVariables false
set_option linter.unusedSimpArgs false
def b_k44:Code:=Tryz.f44.body.getD .skip
theorem b_k44_ok:Tryz.f44.body=some b_k44:=by kernel_rfl
def Psi_k44 (k:Nat):Option KC:=none
theorem Psi_k44_ok:PsiOk Tryz.prog noU Psi_k44:=by
 intro k c h
 unfold Psi_k44 at h
 cases h
def ann_k44:Ann:=(.seq .leaf (.seq .leaf .leaf))
theorem l_k44 (x):funI noU (tabT tab) noPhi Psi_k44 Tryz.f44 b_k44 ann_k44 (.prod t3 (.prod t3 t3)) t4 x=S_hire_within  x:=by kernel_rfl
theorem spec_k44:FnSpec Tryz.prog 44 (.prod t3 (.prod t3 t3)) t4 fcWithin.sh:=
 fn_ok mixOk tabOk noU_ok noPhi_ok Psi_k44_ok Tryz.func44 b_k44_ok (by kernel_rfl) fun x=>M.le_trans (M.le_of_eq (l_k44 x)) (sHWithin x)
def b_k112:Code:=Tryz.f112.body.getD .skip
theorem b_k112_ok:Tryz.f112.body=some b_k112:=by kernel_rfl
def Psi_k112 (k:Nat):Option KC:=none
theorem Psi_k112_ok:PsiOk Tryz.prog noU Psi_k112:=by
 intro k c h
 unfold Psi_k112 at h
 cases h
def ann_k112:Ann:=(.seq .leaf (.join ⟨[],[]⟩ (.seq .leaf (.block (.loop ⟨[(0,.val t23),(1,.val t119),(7,.val t3),(8,.val t3)],[]⟩ (.seq .leaf (.seq (.cond .leaf .leaf) (.seq (.block (.seq .leaf (.seq .leaf (.cond (.seq .leaf .leaf) .leaf)))) .leaf)))))) (.seq .leaf .leaf)))
theorem l_k112 (x):funI noU (tabT tab) noPhi Psi_k112 Tryz.f112 b_k112 ann_k112 (.prod t23 t119) t3 x=S_slices_IndexFunc_api_Slip_api_Slip  x:=by kernel_rfl
theorem spec_k112:FnSpec Tryz.prog 112 (.prod t23 t119) t3 (fcIndexFunc tSlip).sh:=
 fn_ok mixOk tabOk noU_ok noPhi_ok Psi_k112_ok Tryz.func112 b_k112_ok (by kernel_rfl) fun x=>M.le_trans (M.le_of_eq (l_k112 x)) (sIndexFuncS x)
def b_k90:Code:=Tryz.f90.body.getD .skip
theorem b_k90_ok:Tryz.f90.body=some b_k90:=by kernel_rfl
def Psi_k90 (k:Nat):Option KC:=if k=112 then some (.sc ⟨(.prod t23 t119),t3,(fcIndexFunc tSlip).sh,true⟩) else none
theorem Psi_k90_ok:PsiOk Tryz.prog noU Psi_k90:=by
 intro k c h
 unfold Psi_k90 at h
 split at h
 ·cases h;subst_vars;exact ⟨spec_k112,fun _ _=>M.det_det⟩
 cases h
def ann_k90:Ann:=(.seq .leaf (.seq .leaf .leaf))
theorem l_k90 (x):funI noU (tabT tab) noPhi Psi_k90 Tryz.f90 b_k90 ann_k90 (.prod t23 t119) t4 x=S_slices_ContainsFunc_api_Slip_api_Slip (fcIndexFunc tSlip).sh x:=by kernel_rfl
theorem spec_k90:FnSpec Tryz.prog 90 (.prod t23 t119) t4 (fcContainsFunc tSlip).sh:=
 fn_ok mixOk tabOk noU_ok noPhi_ok Psi_k90_ok Tryz.func90 b_k90_ok (by kernel_rfl) fun x=>M.le_trans (M.le_of_eq (l_k90 x)) (sContainsFuncS x)
def b_k95:Code:=Tryz.f95.body.getD .skip
theorem b_k95_ok:Tryz.f95.body=some b_k95:=by kernel_rfl
def Psi_k95 (k:Nat):Option KC:=if k=44 then some (.sc ⟨(.prod t3 (.prod t3 t3)),t4,fcWithin.sh,true⟩) else none
theorem Psi_k95_ok:PsiOk Tryz.prog noU Psi_k95:=by
 intro k c h
 unfold Psi_k95 at h
 split at h
 ·cases h;subst_vars;exact ⟨spec_k44,fun _ _=>M.det_det⟩
 cases h
def ann_k95:Ann:=(.seq .leaf (.join ⟨[(1,.loc 1 0)],[(1,.whole t26)]⟩ (.seq .leaf (.block (.loop ⟨[(1,.loc 1 0),(13,.own 13),(14,.val t3),(15,.val t3)],[(1,.whole t26),(13,.arr t3)]⟩ (.seq .leaf (.seq (.cond .leaf .leaf) (.seq (.block (.seq .leaf (.seq .leaf (.cond (.seq .leaf .leaf) .leaf)))) .leaf)))))) (.seq .leaf .leaf)))
theorem l_k95 (x):funI noU (tabT tab) noPhi Psi_k95 Tryz.f95 b_k95 ann_k95 t26 t4 x=S_hire_isTariff fcWithin.sh x:=by kernel_rfl
theorem spec_k95:FnSpec Tryz.prog 95 t26 t4 fcTar.sh:=
 fn_ok mixOk tabOk noU_ok noPhi_ok Psi_k95_ok Tryz.func95 b_k95_ok (by kernel_rfl) fun x=>M.le_trans (M.le_of_eq (l_k95 x)) (sHTar x)
def b_k59:Code:=Tryz.f59.body.getD .skip
theorem b_k59_ok:Tryz.f59.body=some b_k59:=by kernel_rfl
def Psi_k59 (k:Nat):Option KC:=if k=44 then some (.sc ⟨(.prod t3 (.prod t3 t3)),t4,fcWithin.sh,true⟩) else none
theorem Psi_k59_ok:PsiOk Tryz.prog noU Psi_k59:=by
 intro k c h
 unfold Psi_k59 at h
 split at h
 ·cases h;subst_vars;exact ⟨spec_k44,fun _ _=>M.det_det⟩
 cases h
def ann_k59:Ann:=(.seq .leaf (.seq .leaf .leaf))
theorem l_k59 (x):funI noU (tabT tab) noPhi Psi_k59 Tryz.f59 b_k59 ann_k59 t3 t4 x=S_hire_isId fcWithin.sh x:=by kernel_rfl
theorem spec_k59:FnSpec Tryz.prog 59 t3 t4 fcId.sh:=
 fn_ok mixOk tabOk noU_ok noPhi_ok Psi_k59_ok Tryz.func59 b_k59_ok (by kernel_rfl) fun x=>M.le_trans (M.le_of_eq (l_k59 x)) (sHId x)
def b_k97:Code:=Tryz.f97.body.getD .skip
theorem b_k97_ok:Tryz.f97.body=some b_k97:=by kernel_rfl
def Psi_k97 (k:Nat):Option KC:=if k=44 then some (.sc ⟨(.prod t3 (.prod t3 t3)),t4,fcWithin.sh,true⟩) else if k=59 then some (.sc ⟨t3,t4,fcId.sh,true⟩) else none
theorem Psi_k97_ok:PsiOk Tryz.prog noU Psi_k97:=by
 intro k c h
 unfold Psi_k97 at h
 split at h
 ·cases h;subst_vars;exact ⟨spec_k44,fun _ _=>M.det_det⟩
 split at h
 ·cases h;subst_vars;exact ⟨spec_k59,fun _ _=>M.det_det⟩
 cases h
def ann_k97:Ann:=(.seq .leaf (.seq .leaf (.seq .leaf .leaf)))
theorem l_k97 (x):funI noU (tabT tab) noPhi Psi_k97 Tryz.f97 b_k97 ann_k97 (.prod t28 t39) t4 x=S_hire_isSlip fcWithin.sh fcId.sh x:=by kernel_rfl
theorem spec_k97:FnSpec Tryz.prog 97 (.prod t28 t39) t4 fcSlip.sh:=
 fn_ok mixOk tabOk noU_ok noPhi_ok Psi_k97_ok Tryz.func97 b_k97_ok (by kernel_rfl) fun x=>M.le_trans (M.le_of_eq (l_k97 x)) (sHSlip x)
def b_k96:Code:=Tryz.f96.body.getD .skip
theorem b_k96_ok:Tryz.f96.body=some b_k96:=by kernel_rfl
def Psi_k96 (k:Nat):Option KC:=if k=97 then some (.sc ⟨(.prod t28 t39),t4,fcSlip.sh,true⟩) else none
theorem Psi_k96_ok:PsiOk Tryz.prog noU Psi_k96:=by
 intro k c h
 unfold Psi_k96 at h
 split at h
 ·cases h;subst_vars;exact ⟨spec_k97,fun _ _=>M.det_det⟩
 cases h
def ann_k96:Ann:=(.seq .leaf (.seq .leaf .leaf))
theorem l_k96 (x):codeI noU (tabT tab) noPhi Psi_k96 ann_k96 b_k96 (capsSt 1 (parSt (.prod t39 (.ptr t28)) x)) (retI (tabT tab) Tryz.f96.results.toList t4)=S_hire_isCounter_c1 fcSlip.sh x:=by kernel_rfl
theorem spec_k96:FnSpec Tryz.prog 96 (.prod t39 (.ptr t28)) t4 fcSlipC.sh:=
 fnC_ok (n:=1) mixOk tabOk noU_ok noPhi_ok Psi_k96_ok Tryz.func96 b_k96_ok (by kernel_rfl) fun x=>M.le_req (fun h=>by obtain ⟨f,hf,_⟩:=h;exact caps_pre ⟨trivial,isSome_of hf⟩) (M.le_trans (M.le_of_eq (l_k96 x)) (sHWrong x))
def b_k98:Code:=Tryz.f98.body.getD .skip
theorem b_k98_ok:Tryz.f98.body=some b_k98:=by kernel_rfl
def Psi_k98 (k:Nat):Option KC:=if k=59 then some (.sc ⟨t3,t4,fcId.sh,true⟩) else none
theorem Psi_k98_ok:PsiOk Tryz.prog noU Psi_k98:=by
 intro k c h
 unfold Psi_k98 at h
 split at h
 ·cases h;subst_vars;exact ⟨spec_k59,fun _ _=>M.det_det⟩
 cases h
def ann_k98:Ann:=(.seq .leaf (.seq .leaf .leaf))
theorem l_k98 (x):funI noU (tabT tab) noPhi Psi_k98 Tryz.f98 b_k98 ann_k98 t3 t4 x=S_hire_isCounter_c2 fcId.sh x:=by kernel_rfl
theorem spec_k98:FnSpec Tryz.prog 98 t3 t4 fcIdN.sh:=
 fn_ok mixOk tabOk noU_ok noPhi_ok Psi_k98_ok Tryz.func98 b_k98_ok (by kernel_rfl) fun x=>M.le_trans (M.le_of_eq (l_k98 x)) (sHStrange x)
def b_k116:Code:=Tryz.f116.body.getD .skip
theorem b_k116_ok:Tryz.f116.body=some b_k116:=by kernel_rfl
def Psi_k116 (k:Nat):Option KC:=none
theorem Psi_k116_ok:PsiOk Tryz.prog noU Psi_k116:=by
 intro k c h
 unfold Psi_k116 at h
 cases h
def ann_k116:Ann:=(.seq .leaf (.join ⟨[],[]⟩ (.seq .leaf (.block (.loop ⟨[(0,.val t24),(1,.val t32),(7,.val t3),(8,.val t3)],[]⟩ (.seq .leaf (.seq (.cond .leaf .leaf) (.seq (.block (.seq .leaf (.seq .leaf (.cond (.seq .leaf .leaf) .leaf)))) .leaf)))))) (.seq .leaf .leaf)))
theorem l_k116 (x):funI noU (tabT tab) noPhi Psi_k116 Tryz.f116 b_k116 ann_k116 (.prod t24 t32) t3 x=S_slices_IndexFunc_int_int  x:=by kernel_rfl
theorem spec_k116:FnSpec Tryz.prog 116 (.prod t24 t32) t3 (fcIndexFunc tI).sh:=
 fn_ok mixOk tabOk noU_ok noPhi_ok Psi_k116_ok Tryz.func116 b_k116_ok (by kernel_rfl) fun x=>M.le_trans (M.le_of_eq (l_k116 x)) (sIndexFuncI x)
def b_k99:Code:=Tryz.f99.body.getD .skip
theorem b_k99_ok:Tryz.f99.body=some b_k99:=by kernel_rfl
def Psi_k99 (k:Nat):Option KC:=if k=116 then some (.sc ⟨(.prod t24 t32),t3,(fcIndexFunc tI).sh,true⟩) else none
theorem Psi_k99_ok:PsiOk Tryz.prog noU Psi_k99:=by
 intro k c h
 unfold Psi_k99 at h
 split at h
 ·cases h;subst_vars;exact ⟨spec_k116,fun _ _=>M.det_det⟩
 cases h
def ann_k99:Ann:=(.seq .leaf (.seq .leaf .leaf))
theorem l_k99 (x):funI noU (tabT tab) noPhi Psi_k99 Tryz.f99 b_k99 ann_k99 (.prod t24 t32) t4 x=S_slices_ContainsFunc_int_int (fcIndexFunc tI).sh x:=by kernel_rfl
theorem spec_k99:FnSpec Tryz.prog 99 (.prod t24 t32) t4 (fcContainsFunc tI).sh:=
 fn_ok mixOk tabOk noU_ok noPhi_ok Psi_k99_ok Tryz.func99 b_k99_ok (by kernel_rfl) fun x=>M.le_trans (M.le_of_eq (l_k99 x)) (sContainsFuncI x)
def b_k62:Code:=Tryz.f62.body.getD .skip
theorem b_k62_ok:Tryz.f62.body=some b_k62:=by kernel_rfl
def U_k62:FnTab:={ fnv:=fun k=>if k=98 then some ⟨t3,t4,fcIdN.sh⟩ else none,clv:=fun k=>if k=96 then some ⟨[t39],[t28],t4,fcSlipC.sh⟩ else none }
theorem U_k62_ok:FnTabOk Tryz.prog U_k62 where
 fnv:=by
  intro k v h
  simp only [U_k62] at h
  split at h
  ·cases h;subst_vars;exact spec_k98
  cases h
 clv:=by
  intro k v h
  simp only [U_k62] at h
  split at h
  ·cases h;subst_vars;exact ⟨rfl,spec_k96⟩
  cases h
def Psi_k62 (k:Nat):Option KC:=if k=44 then some (.sc ⟨(.prod t3 (.prod t3 t3)),t4,fcWithin.sh,true⟩) else if k=90 then some (.sc ⟨(.prod t23 t119),t4,(fcContainsFunc tSlip).sh,true⟩) else if k=95 then some (.sc ⟨t26,t4,fcTar.sh,true⟩) else if k=99 then some (.sc ⟨(.prod t24 t32),t4,(fcContainsFunc tI).sh,true⟩) else none
theorem Psi_k62_ok:PsiOk Tryz.prog U_k62 Psi_k62:=by
 intro k c h
 unfold Psi_k62 at h
 split at h
 ·cases h;subst_vars;exact ⟨spec_k44,fun _ _=>M.det_det⟩
 split at h
 ·cases h;subst_vars;exact ⟨spec_k90,fun _ _=>M.det_det⟩
 split at h
 ·cases h;subst_vars;exact ⟨spec_k95,fun _ _=>M.det_det⟩
 split at h
 ·cases h;subst_vars;exact ⟨spec_k99,fun _ _=>M.det_det⟩
 cases h
def ann_k62:Ann:=(.seq .leaf (.seq (.seq .leaf (.cond (.seq .leaf .leaf) .leaf)) (.join ⟨[(1,.loc 1 0)],[(1,.whole t28)]⟩ (.seq .leaf (.block (.loop ⟨[(1,.loc 1 0),(38,.val t22),(39,.val t3),(40,.val t3)],[(1,.whole t28)]⟩ (.seq .leaf (.seq (.cond .leaf .leaf) (.seq (.block (.seq .leaf (.seq .leaf (.cond (.seq .leaf .leaf) .leaf)))) .leaf)))))) (.join ⟨[(1,.loc 1 0)],[(1,.whole t28)]⟩ (.seq .leaf (.block (.loop ⟨[(1,.loc 1 0),(57,.val t22),(58,.val t3),(59,.val t3)],[(1,.whole t28)]⟩ (.seq .leaf (.seq (.cond .leaf .leaf) (.seq (.block (.seq .leaf (.seq .leaf (.cond (.seq .leaf .leaf) .leaf)))) .leaf)))))) (.seq .leaf (.seq .leaf (.seq .leaf .leaf)))))))
theorem l_k62 (x):funI U_k62 (tabT tab) noPhi Psi_k62 Tryz.f62 b_k62 ann_k62 t28 t4 x=S_hire_isCounter fcWithin.sh (fcContainsFunc tSlip).sh fcTar.sh (fcContainsFunc tI).sh fcSlipC.sh fcIdN.sh x:=by kernel_rfl
theorem spec_k62:FnSpec Tryz.prog 62 t28 t4 fcCounter.sh:=
 fn_ok mixOk tabOk U_k62_ok noPhi_ok Psi_k62_ok Tryz.func62 b_k62_ok (by kernel_rfl) fun x=>M.le_trans (M.le_of_eq (l_k62 x)) (sHCounter x)
def b_kappseq:Code:=Tryz.f115.body.getD .skip
theorem b_kappseq_ok:Tryz.f115.body=some b_kappseq:=by kernel_rfl
def Psi_kappseq (k:Nat):Option KC:=none
theorem Psi_kappseq_ok:PsiOk Tryz.prog noU Psi_kappseq:=by
 intro k c h
 unfold Psi_kappseq at h
 cases h
def ioc_appseq:IOC:=⟨⟨[(0,.nils),(1,.val t87)],[]⟩,⟨[(0,.own 50000)],[(50000,.arr t3)]⟩,[none],2,shSeq⟩
def ann_kappseq:Ann:=(.seq .leaf (.seq (.seq .leaf (.block (.range ⟨[(2,.loc 2 0)],[(2,.cells t24 [.own 50000]),(50000,.arr t3)]⟩ ⟨[(2,.loc 100002 0),(7,.val t3)],[(100002,.cells t24 [.own 150000]),(150000,.arr t3)]⟩ ⟨[],[(100002,.cells t24 [.own 150000]),(150000,.arr t3)]⟩ .leaf (.block .leaf)))) (.seq .leaf .leaf)))
theorem l_kappseq (x):funIO noU (tabT tab) noPhi Psi_kappseq Tryz.f115 b_kappseq ann_kappseq ⟨[(0,.nils),(1,.val t87)],[]⟩ ⟨[(0,.own 50000)],[(50000,.arr t3)]⟩ [none] x=S_slices_AppendSeq  x:=by kernel_rfl
theorem io_appseq:IoSpec Tryz.prog noU 115 ioc_appseq:=
 fnIO_ok mixOk tabOk noPhi_ok Psi_kappseq_ok Tryz.func115 b_kappseq_ok (by kernel_rfl) fun x=>M.le_trans (M.le_of_eq (l_kappseq x)) (sAppSeq x)
def b_kcollect:Code:=Tryz.f87.body.getD .skip
theorem b_kcollect_ok:Tryz.f87.body=some b_kcollect:=by kernel_rfl
def Psi_kcollect (k:Nat):Option KC:=if k=115 then some (.io ioc_appseq) else none
theorem Psi_kcollect_ok:PsiOk Tryz.prog noU Psi_kcollect:=by
 intro k c h
 unfold Psi_kcollect at h
 split at h
 ·cases h;subst_vars;exact io_appseq
 cases h
def ioc_collect:IOC:=⟨⟨[(0,.val t87)],[]⟩,⟨[(0,.own 50040)],[(50040,.arr t3)]⟩,[none],1,shSeq⟩
def ann_kcollect:Ann:=(.seq .leaf (.seq .leaf .leaf))
theorem l_kcollect (x):funIO noU (tabT tab) noPhi Psi_kcollect Tryz.f87 b_kcollect ann_kcollect ⟨[(0,.val t87)],[]⟩ ⟨[(0,.own 50040)],[(50040,.arr t3)]⟩ [none] x=S_slices_Collect shSeq x:=by kernel_rfl
theorem io_collect:IoSpec Tryz.prog noU 87 ioc_collect:=
 fnIO_ok mixOk tabOk noPhi_ok Psi_kcollect_ok Tryz.func87 b_kcollect_ok (by kernel_rfl) fun x=>M.le_trans (M.le_of_eq (l_kcollect x)) (sCollect x)
def b_k47:Code:=Tryz.f47.body.getD .skip
theorem b_k47_ok:Tryz.f47.body=some b_k47:=by kernel_rfl
def Psi_k47 (k:Nat):Option KC:=if k=80 then some (.io ioc_sort) else if k=87 then some (.io ioc_collect) else none
theorem Psi_k47_ok:PsiOk Tryz.prog noU Psi_k47:=by
 intro k c h
 unfold Psi_k47 at h
 split at h
 ·cases h;subst_vars;exact io_sort
 split at h
 ·cases h;subst_vars;exact io_collect
 cases h
def ann_k47:Ann:=(.seq .leaf (.seq .leaf (.seq .leaf (.seq .leaf .leaf))))
theorem l_k47 (x):funI noU (tabT tab) noPhi Psi_k47 Tryz.f47 b_k47 ann_k47 t87 t24 x=S_slices_Sorted_int shSortI shSeq x:=by kernel_rfl
theorem spec_k47:FnSpec Tryz.prog 47 t87 t24 fcSorted.sh:=
 fn_ok mixOk tabOk noU_ok noPhi_ok Psi_k47_ok Tryz.func47 b_k47_ok (by kernel_rfl) fun x=>M.le_trans (M.le_of_eq (l_k47 x)) (sSorted x)
def b_kkeysS:Code:=Tryz.f117.body.getD .skip
theorem b_kkeysS_ok:Tryz.f117.body=some b_kkeysS:=by kernel_rfl
def Psi_kkeysS (k:Nat):Option KC:=none
theorem Psi_kkeysS_ok:PsiOk Tryz.prog noU Psi_kkeysS:=by
 intro k c h
 unfold Psi_kkeysS at h
 cases h
def ioc_keysS:IOC:=⟨⟨[(0,.yld),(1,.pp t127),(1000000,.tr t3)],[]⟩,⟨[(1000000,.tr t3)],[]⟩,[],2,S_maps_KeysS⟩
def ann_kkeysS:Ann:=(.seq .leaf (.block (.loop ⟨[(0,.yld),(5,.iter 5),(1000000,.tr t3)],[(5,.it t3 t39)]⟩ (.seq .leaf (.seq (.cond .leaf .leaf) (.block (.seq .leaf (.seq .leaf (.cond .leaf .leaf)))))))))
theorem l_kkeysS (x):funIO noU (tabT tab) noPhi Psi_kkeysS Tryz.f117 b_kkeysS ann_kkeysS ⟨[(0,.yld),(1,.pp t127),(1000000,.tr t3)],[]⟩ ⟨[(1000000,.tr t3)],[]⟩ [] x=S_maps_KeysS  x:=by kernel_rfl
theorem io_keysS:IoSpec Tryz.prog noU 117 ioc_keysS:=
 fnIO_ok mixOk tabOk noPhi_ok Psi_kkeysS_ok Tryz.func117 b_kkeysS_ok (by kernel_rfl) fun x=>M.le_trans (M.le_of_eq (l_kkeysS x)) (M.le_refl <| S_maps_KeysS x)
theorem cit_117:CItSpec Tryz.prog 117 ⟨[t127],t3,keysS⟩:=cit_of_io (c:=ioc_keysS) io_keysS noU_ok (fun x l L=>(l,x.getD [],(l,L,[],false),())) rfl (by decide) (by simp [tupT])
 (fun x l L i hx=>by
  obtain ⟨T,hT⟩:=hx
  obtain ⟨m,hm,_⟩:=hT
  subst hm
  by_cases h0:i=0
  ·subst h0;exact .inr (.inr (.inl ⟨rfl,rfl⟩))
  ·by_cases h1:i=1
   ·subst h1;exact .inr (.inl ⟨by decide,by decide,_,_,rfl,rfl⟩)
   by_cases h2:i=TRS
   ·subst h2;exact .inr (.inr (.inr ⟨rfl,rfl⟩))
   ·refine .inl ?_
    exact (if_neg h0).trans ((if_neg h1).trans (if_neg h2)))
 rfl (fun τ=>⟨_,_,_,_,rfl⟩) (fun x l hx=>by
  obtain ⟨T,hT⟩:=hx
  obtain ⟨m,hm,_⟩:=hT
  subst hm
  have h:=sKeysIOS l m
  refine ⟨h.1,fun τ hτ l' L' p hsl=>?_⟩
  have e:AV.tr τ.1.1 t3 τ.1.2.1 τ.1.2.2.1 τ.1.2.2.2=.tr l' t3 L' p false:=hsl
  injection e with e1 e2 e3 e4 e5
  rw [←e4]
  exact h.2 τ hτ e5)
def b_k100:Code:=Tryz.f100.body.getD .skip
theorem b_k100_ok:Tryz.f100.body=some b_k100:=by kernel_rfl
def U_k100:FnTab:={ fnv:=fun k=>none,clv:=fun k=>none,itv:=fun k=>if k=117 then some ⟨[t127],t3,keysS⟩ else none }
theorem U_k100_ok:FnTabOk Tryz.prog U_k100 where
 fnv:=by
  intro k v h
  simp only [U_k100] at h
  cases h
 clv:=by
  intro k v h
  simp only [U_k100] at h
  cases h
 itv:=by
  intro k v h
  simp only [U_k100] at h
  split at h
  ·cases h;subst_vars;exact cit_117
  cases h
def Psi_k100 (k:Nat):Option KC:=none
theorem Psi_k100_ok:PsiOk Tryz.prog U_k100 Psi_k100:=by
 intro k c h
 unfold Psi_k100 at h
 cases h
def ann_k100:Ann:=(.seq .leaf (.seq .leaf .leaf))
theorem l_k100 (x):funI U_k100 (tabT tab) noPhi Psi_k100 Tryz.f100 b_k100 ann_k100 t127 t87 x=S_maps_Keys_map_int_api_Slip_int_api_Slip keysS x:=by kernel_rfl
theorem spec_k100:FnSpec Tryz.prog 100 t127 t87 fcKeysS.sh:=
 fn_ok mixOk tabOk U_k100_ok noPhi_ok Psi_k100_ok Tryz.func100 b_k100_ok (by kernel_rfl) fun x=>M.le_trans (M.le_of_eq (l_k100 x)) (sKeysS x)
def b_k63:Code:=Tryz.f63.body.getD .skip
theorem b_k63_ok:Tryz.f63.body=some b_k63:=by kernel_rfl
def Psi_k63 (k:Nat):Option KC:=if k=47 then some (.sc ⟨t87,t24,fcSorted.sh,true⟩) else if k=100 then some (.sc ⟨t127,t87,fcKeysS.sh,true⟩) else none
theorem Psi_k63_ok:PsiOk Tryz.prog noU Psi_k63:=by
 intro k c h
 unfold Psi_k63 at h
 split at h
 ·cases h;subst_vars;exact ⟨spec_k47,fun _ _=>M.det_det⟩
 split at h
 ·cases h;subst_vars;exact ⟨spec_k100,fun _ _=>M.det_det⟩
 cases h
def ann_k63:Ann:=(.seq .leaf (.seq .leaf (.join ⟨[(4,.mapl 12)],[(12,.mp t3 t39)]⟩ (.seq .leaf (.block (.loop ⟨[(4,.mapl 12),(13,.val t23),(14,.val t3),(15,.val t3)],[(12,.mp t3 t39)]⟩ (.seq .leaf (.seq (.cond .leaf .leaf) (.seq (.block (.seq .leaf (.seq (.seq .leaf (.seq .leaf (.cond (.seq .leaf .leaf) .leaf))) .leaf))) .leaf)))))) (.seq .leaf (.join ⟨[(9,.own 9)],[(9,.arr t39)]⟩ (.seq .leaf (.block (.loop ⟨[(4,.mapl 12),(9,.own 9),(39,.val t24),(40,.val t3),(41,.val t3)],[(9,.arr t39),(12,.frzm t3 t39)]⟩ (.seq .leaf (.seq (.cond .leaf .leaf) (.seq (.block (.seq .leaf .leaf)) .leaf)))))) (.seq .leaf .leaf))))))
theorem l_k63 (x):funI noU (tabT tab) noPhi Psi_k63 Tryz.f63 b_k63 ann_k63 t23 (.prod t23 t4) x=S_hire_once fcSorted.sh fcKeysS.sh x:=by kernel_rfl
theorem spec_k63:FnSpec Tryz.prog 63 t23 (.prod t23 t4) fcOnceH.sh:=
 fn_ok mixOk tabOk noU_ok noPhi_ok Psi_k63_ok Tryz.func63 b_k63_ok (by kernel_rfl) fun x=>M.le_trans (M.le_of_eq (l_k63 x)) (sOnceH x)
def b_k26:Code:=Tryz.f26.body.getD .skip
theorem b_k26_ok:Tryz.f26.body=some b_k26:=by kernel_rfl
def Psi_k26 (k:Nat):Option KC:=if k=62 then some (.sc ⟨t28,t4,fcCounter.sh,true⟩) else if k=63 then some (.sc ⟨t23,(.prod t23 t4),fcOnceH.sh,true⟩) else none
theorem Psi_k26_ok:PsiOk Tryz.prog noU Psi_k26:=by
 intro k c h
 unfold Psi_k26 at h
 split at h
 ·cases h;subst_vars;exact ⟨spec_k62,fun _ _=>M.det_det⟩
 split at h
 ·cases h;subst_vars;exact ⟨spec_k63,fun _ _=>M.det_det⟩
 cases h
def ann_k26:Ann:=(.seq .leaf (.seq (.seq .leaf (.cond (.seq .leaf .leaf) .leaf)) (.seq (.seq .leaf (.seq .leaf (.cond (.seq .leaf .leaf) .leaf))) (.seq .leaf .leaf))))
theorem l_k26 (x):funI noU (tabT tab) noPhi Psi_k26 Tryz.f26 b_k26 ann_k26 t28 t34 x=S_hire_Check fcCounter.sh fcOnceH.sh x:=by kernel_rfl
theorem spec_k26:FnSpec Tryz.prog 26 t28 t34 fcCheck.sh:=
 fn_ok mixOk tabOk noU_ok noPhi_ok Psi_k26_ok Tryz.func26 b_k26_ok (by kernel_rfl) fun x=>M.le_trans (M.le_of_eq (l_k26 x)) (sHCheck x)
def b_konce:Code:=Tryz.f63.body.getD .skip
theorem b_konce_ok:Tryz.f63.body=some b_konce:=by kernel_rfl
def U_k42:FnTab:={ fnv:=fun k=>if k=132 then some ⟨(.prod t82 t82),t3,fcCmpE.sh⟩ else none,clv:=fun k=>if k=84 then some ⟨[t39],[t28],t4,fcVoid.sh⟩ else none }
def Psi_konce (k:Nat):Option KC:=if k=47 then some (.sc ⟨t87,t24,fcSorted.sh,true⟩) else if k=100 then some (.sc ⟨t127,t87,fcKeysS.sh,true⟩) else none
theorem Psi_konce_ok:PsiOk Tryz.prog U_k42 Psi_konce:=by
 intro k c h
 unfold Psi_konce at h
 split at h
 ·cases h;subst_vars;exact ⟨spec_k47,fun _ _=>M.det_det⟩
 split at h
 ·cases h;subst_vars;exact ⟨spec_k100,fun _ _=>M.det_det⟩
 cases h
def ioc_once:IOC:=⟨⟨[(0,.val t23)],[]⟩,⟨[(0,.own 9),(1,.val t4)],[(9,.arr t39)]⟩,[none,none],1,shOnceIO⟩
def ann_konce:Ann:=(.seq .leaf (.seq .leaf (.join ⟨[(4,.mapl 12)],[(12,.mp t3 t39)]⟩ (.seq .leaf (.block (.loop ⟨[(4,.mapl 12),(13,.val t23),(14,.val t3),(15,.val t3)],[(12,.mp t3 t39)]⟩ (.seq .leaf (.seq (.cond .leaf .leaf) (.seq (.block (.seq .leaf (.seq (.seq .leaf (.seq .leaf (.cond (.seq .leaf .leaf) .leaf))) .leaf))) .leaf)))))) (.seq .leaf (.join ⟨[(9,.own 9)],[(9,.arr t39)]⟩ (.seq .leaf (.block (.loop ⟨[(4,.mapl 12),(9,.own 9),(39,.val t24),(40,.val t3),(41,.val t3)],[(9,.arr t39),(12,.frzm t3 t39)]⟩ (.seq .leaf (.seq (.cond .leaf .leaf) (.seq (.block (.seq .leaf .leaf)) .leaf)))))) (.seq .leaf .leaf))))))
theorem l_konce (x):funIO U_k42 (tabT tab) noPhi Psi_konce Tryz.f63 b_konce ann_konce ⟨[(0,.val t23)],[]⟩ ⟨[(0,.own 9),(1,.val t4)],[(9,.arr t39)]⟩ [none,none] x=S_hire_onceIO fcSorted.sh fcKeysS.sh x:=by kernel_rfl
theorem io_once:IoSpec Tryz.prog U_k42 63 ioc_once:=
 fnIO_ok mixOk tabOk noPhi_ok Psi_konce_ok Tryz.func63 b_konce_ok (by kernel_rfl) fun x=>M.le_trans (M.le_of_eq (l_konce x)) (sOnceIO x)
def b_kdelfunc:Code:=Tryz.f83.body.getD .skip
theorem b_kdelfunc_ok:Tryz.f83.body=some b_kdelfunc:=by kernel_rfl
def Psi_kdelfunc (k:Nat):Option KC:=if k=112 then some (.sc ⟨(.prod t23 t119),t3,(fcIndexFunc tSlip).sh,true⟩) else none
theorem Psi_kdelfunc_ok:PsiOk Tryz.prog U_k42 Psi_kdelfunc:=by
 intro k c h
 unfold Psi_kdelfunc at h
 split at h
 ·cases h;subst_vars;exact ⟨spec_k112,fun _ _=>M.det_det⟩
 cases h
def ioc_delfunc:IOC:=⟨⟨[(0,.own 200001),(1,.val t119)],[(200001,.arr t39)]⟩,⟨[(0,.sub 200001)],[(200001,.arr t39)]⟩,[none],2,shDel⟩
def ann_kdelfunc:Ann:=(.seq .leaf (.seq .leaf (.seq (.seq .leaf (.cond (.seq .leaf .leaf) .leaf)) (.join ⟨[(0,.own 200001),(5,.val t3)],[(200001,.arr t39)]⟩ (.seq .leaf (.block (.loop ⟨[(0,.own 200001),(1,.val t119),(5,.val t3),(6,.val t3)],[(200001,.arr t39)]⟩ (.seq (.seq .leaf (.cond .leaf .leaf)) (.join ⟨[(0,.own 200001),(1,.val t119),(5,.val t3),(6,.val t3)],[(200001,.arr t39)]⟩ (.block (.seq .leaf (.seq .leaf (.cond (.seq .leaf .leaf) .leaf)))) .leaf))))) (.seq .leaf (.seq .leaf .leaf))))))
theorem l_kdelfunc (x):funIO U_k42 (tabT tab) noPhi Psi_kdelfunc Tryz.f83 b_kdelfunc ann_kdelfunc ⟨[(0,.own 200001),(1,.val t119)],[(200001,.arr t39)]⟩ ⟨[(0,.sub 200001)],[(200001,.arr t39)]⟩ [none] x=S_slices_DeleteFunc (fcIndexFunc tSlip).sh x:=by kernel_rfl
theorem io_delfunc:IoSpec Tryz.prog U_k42 83 ioc_delfunc:=
 fnIO_ok mixOk tabOk noPhi_ok Psi_kdelfunc_ok Tryz.func83 b_kdelfunc_ok (by kernel_rfl) fun x=>M.le_trans (M.le_of_eq (l_kdelfunc x)) (sDel x)
def b_k113:Code:=Tryz.f113.body.getD .skip
theorem b_k113_ok:Tryz.f113.body=some b_k113:=by kernel_rfl
def Psi_k113 (k:Nat):Option KC:=none
theorem Psi_k113_ok:PsiOk Tryz.prog noU Psi_k113:=by
 intro k c h
 unfold Psi_k113 at h
 cases h
def ann_k113:Ann:=(.seq .leaf (.join ⟨[],[]⟩ (.seq .leaf (.block (.loop ⟨[(0,.val t24),(1,.val t3),(7,.val t3),(8,.val t3)],[]⟩ (.seq .leaf (.seq (.cond .leaf .leaf) (.seq (.block (.seq .leaf (.seq .leaf (.cond (.seq .leaf .leaf) .leaf)))) .leaf)))))) (.seq .leaf .leaf)))
theorem l_k113 (x):funI noU (tabT tab) noPhi Psi_k113 Tryz.f113 b_k113 ann_k113 (.prod t24 t3) t3 x=S_slices_Index_int_int  x:=by kernel_rfl
theorem spec_k113:FnSpec Tryz.prog 113 (.prod t24 t3) t3 fcIndex.sh:=
 fn_ok mixOk tabOk noU_ok noPhi_ok Psi_k113_ok Tryz.func113 b_k113_ok (by kernel_rfl) fun x=>M.le_trans (M.le_of_eq (l_k113 x)) (sIndex x)
def b_k85:Code:=Tryz.f85.body.getD .skip
theorem b_k85_ok:Tryz.f85.body=some b_k85:=by kernel_rfl
def Psi_k85 (k:Nat):Option KC:=if k=113 then some (.sc ⟨(.prod t24 t3),t3,fcIndex.sh,true⟩) else none
theorem Psi_k85_ok:PsiOk Tryz.prog noU Psi_k85:=by
 intro k c h
 unfold Psi_k85 at h
 split at h
 ·cases h;subst_vars;exact ⟨spec_k113,fun _ _=>M.det_det⟩
 cases h
def ann_k85:Ann:=(.seq .leaf (.seq .leaf .leaf))
theorem l_k85 (x):funI noU (tabT tab) noPhi Psi_k85 Tryz.f85 b_k85 ann_k85 (.prod t24 t3) t4 x=S_slices_Contains_int_int fcIndex.sh x:=by kernel_rfl
theorem spec_k85:FnSpec Tryz.prog 85 (.prod t24 t3) t4 fcIn.sh:=
 fn_ok mixOk tabOk noU_ok noPhi_ok Psi_k85_ok Tryz.func85 b_k85_ok (by kernel_rfl) fun x=>M.le_trans (M.le_of_eq (l_k85 x)) (sContains x)
def b_k84:Code:=Tryz.f84.body.getD .skip
theorem b_k84_ok:Tryz.f84.body=some b_k84:=by kernel_rfl
def Psi_k84 (k:Nat):Option KC:=if k=85 then some (.sc ⟨(.prod t24 t3),t4,fcIn.sh,true⟩) else none
theorem Psi_k84_ok:PsiOk Tryz.prog noU Psi_k84:=by
 intro k c h
 unfold Psi_k84 at h
 split at h
 ·cases h;subst_vars;exact ⟨spec_k85,fun _ _=>M.det_det⟩
 cases h
def ann_k84:Ann:=(.seq .leaf (.seq .leaf .leaf))
theorem l_k84 (x):codeI noU (tabT tab) noPhi Psi_k84 ann_k84 b_k84 (capsSt 1 (parSt (.prod t39 (.ptr t28)) x)) (retI (tabT tab) Tryz.f84.results.toList t4)=S_hire_read_c1 fcIn.sh x:=by kernel_rfl
theorem spec_k84:FnSpec Tryz.prog 84 (.prod t39 (.ptr t28)) t4 fcVoid.sh:=
 fnC_ok (n:=1) mixOk tabOk noU_ok noPhi_ok Psi_k84_ok Tryz.func84 b_k84_ok (by kernel_rfl) fun x=>M.le_req (fun h=>by obtain ⟨f,hf,_⟩:=h;exact caps_pre ⟨trivial,isSome_of hf⟩) (M.le_trans (M.le_of_eq (l_k84 x)) (sVoid x))
def b_k130:Code:=Tryz.f130.body.getD .skip
theorem b_k130_ok:Tryz.f130.body=some b_k130:=by kernel_rfl
def Psi_k130 (k:Nat):Option KC:=none
theorem Psi_k130_ok:PsiOk Tryz.prog noU Psi_k130:=by
 intro k c h
 unfold Psi_k130 at h
 cases h
def ann_k130:Ann:=(.seq .leaf (.seq (.seq .leaf (.cond (.seq .leaf .leaf) .leaf)) (.seq .leaf .leaf)))
theorem l_k130 (x):funI noU (tabT tab) noPhi Psi_k130 Tryz.f130 b_k130 ann_k130 t24 t24 x=S_slices_Clone_int_int  x:=by kernel_rfl
theorem spec_k130:FnSpec Tryz.prog 130 t24 t24 fcClone.sh:=
 fn_ok mixOk tabOk noU_ok noPhi_ok Psi_k130_ok Tryz.func130 b_k130_ok (by kernel_rfl) fun x=>M.le_trans (M.le_of_eq (l_k130 x)) (sClone x)
def b_k129:Code:=Tryz.f129.body.getD .skip
theorem b_k129_ok:Tryz.f129.body=some b_k129:=by kernel_rfl
def Psi_k129 (k:Nat):Option KC:=none
theorem Psi_k129_ok:PsiOk Tryz.prog noU Psi_k129:=by
 intro k c h
 unfold Psi_k129 at h
 cases h
def ann_k129:Ann:=(.seq .leaf (.join ⟨[(0,.val t141),(2,.val t3)],[]⟩ (.seq .leaf (.cond (.seq .leaf .leaf) .leaf)) (.join ⟨[(0,.val t141),(2,.val t3)],[]⟩ (.seq .leaf (.cond (.seq .leaf .leaf) .leaf)) (.join ⟨[(0,.val t141),(2,.val t3)],[]⟩ (.seq .leaf (.cond (.seq .leaf .leaf) .leaf)) (.seq .leaf .leaf)))))
theorem l_k129 (x):funI noU (tabT tab) noPhi Psi_k129 Tryz.f129 b_k129 ann_k129 t160 t3 x=S_math_bits_Len64  x:=by kernel_rfl
theorem spec_k129:FnSpec Tryz.prog 129 t160 t3 fcLen64.sh:=
 fn_ok mixOk tabOk noU_ok noPhi_ok Psi_k129_ok Tryz.func129 b_k129_ok (by kernel_rfl) fun x=>M.le_trans (M.le_of_eq (l_k129 x)) (sLen64 x)
def b_k111:Code:=Tryz.f111.body.getD .skip
theorem b_k111_ok:Tryz.f111.body=some b_k111:=by kernel_rfl
def Psi_k111 (k:Nat):Option KC:=if k=129 then some (.sc ⟨t160,t3,fcLen64.sh,true⟩) else none
theorem Psi_k111_ok:PsiOk Tryz.prog noU Psi_k111:=by
 intro k c h
 unfold Psi_k111 at h
 split at h
 ·cases h;subst_vars;exact ⟨spec_k129,fun _ _=>M.det_det⟩
 cases h
def ann_k111:Ann:=(.seq .leaf (.seq (.cond (.seq .leaf .leaf) .leaf) (.seq .leaf .leaf)))
theorem l_k111 (x):funI noU (tabT tab) noPhi Psi_k111 Tryz.f111 b_k111 ann_k111 t141 t3 x=S_math_bits_Len (fun _=>M.fail) fcLen64.sh x:=by kernel_rfl
theorem spec_k111:FnSpec Tryz.prog 111 t141 t3 fcLen.sh:=
 fn_ok mixOk tabOk noU_ok noPhi_ok Psi_k111_ok Tryz.func111 b_k111_ok (by kernel_rfl) fun x=>M.le_trans (M.le_of_eq (l_k111 x)) (sLen (fun _=>M.fail) x)
def b_kinsf:Code:=Tryz.f142.body.getD .skip
theorem b_kinsf_ok:Tryz.f142.body=some b_kinsf:=by kernel_rfl
def Psi_kinsf (k:Nat):Option KC:=none
theorem Psi_kinsf_ok:PsiOk Tryz.prog U_k42 Psi_kinsf:=by
 intro k c h
 unfold Psi_kinsf at h
 cases h
def ioc_insf:IOC:=⟨⟨[(0,.own 200001),(1,.val t3),(2,.val t3),(3,.val t163)],[(200001,.arr t82)]⟩,⟨[],[(200001,.arr t82)]⟩,[],4,shInsE⟩
def ann_kinsf:Ann:=(.seq .leaf (.block (.loop ⟨[(0,.own 200001),(1,.val t3),(2,.val t3),(3,.val t163),(8,.val t3)],[(200001,.arr t82)]⟩ (.seq (.seq .leaf (.cond .leaf .leaf)) (.join ⟨[(0,.own 200001),(1,.val t3),(2,.val t3),(3,.val t163),(8,.val t3)],[(200001,.arr t82)]⟩ (.block (.seq .leaf (.block (.loop ⟨[(0,.own 200001),(1,.val t3),(2,.val t3),(3,.val t163),(8,.val t3),(9,.val t3)],[(200001,.arr t82)]⟩ (.seq (.seq .leaf (.cond .leaf .leaf)) (.seq (.block .leaf) .leaf)))))) .leaf)))))
theorem l_kinsf (x):funIO U_k42 (tabT tab) noPhi Psi_kinsf Tryz.f142 b_kinsf ann_kinsf ⟨[(0,.own 200001),(1,.val t3),(2,.val t3),(3,.val t163)],[(200001,.arr t82)]⟩ ⟨[],[(200001,.arr t82)]⟩ [] x=S_slices_insSortF  x:=by kernel_rfl
theorem io_insf:IoSpec Tryz.prog U_k42 142 ioc_insf:=
 fnIO_ok mixOk tabOk noPhi_ok Psi_kinsf_ok Tryz.func142 b_kinsf_ok (by kernel_rfl) fun x=>M.le_trans (M.le_of_eq (l_kinsf x)) (sInsE x)
def b_kpdqf:Code:=Tryz.f140.body.getD .skip
theorem b_kpdqf_ok:Tryz.f140.body=some b_kpdqf:=by kernel_rfl
def Psi_kpdqf (k:Nat):Option KC:=if k=142 then some (.io ioc_insf) else none
theorem Psi_kpdqf_ok:PsiOk Tryz.prog U_k42 Psi_kpdqf:=by
 intro k c h
 unfold Psi_kpdqf at h
 split at h
 ·cases h;subst_vars;exact io_insf
 cases h
def ioc_pdqf:IOC:=⟨⟨[(0,.own 200001),(1,.val t3),(2,.val t3),(3,.val t3),(4,.val t163)],[(200001,.arr t82)]⟩,⟨[],[(200001,.arr t82)]⟩,[],5,shPdqE⟩
def ann_kpdqf:Ann:=(.seq .leaf (.seq .leaf (.block (.loop ⟨[(0,.own 200001),(1,.val t3),(2,.val t3),(3,.val t3),(4,.val t163),(10,.val t4),(11,.val t4)],[(200001,.arr t82)]⟩ (.block (.seq .leaf (.seq (.seq .leaf (.cond (.seq .leaf .leaf) .leaf)) .leaf)))))))
theorem l_kpdqf (x):funIO U_k42 (tabT tab) noPhi Psi_kpdqf Tryz.f140 b_kpdqf ann_kpdqf ⟨[(0,.own 200001),(1,.val t3),(2,.val t3),(3,.val t3),(4,.val t163)],[(200001,.arr t82)]⟩ ⟨[],[(200001,.arr t82)]⟩ [] x=S_slices_pdqsortF shInsE x:=by kernel_rfl
theorem io_pdqf:IoSpec Tryz.prog U_k42 140 ioc_pdqf:=
 fnIO_ok mixOk tabOk noPhi_ok Psi_kpdqf_ok Tryz.func140 b_kpdqf_ok (by kernel_rfl) fun x=>M.le_trans (M.le_of_eq (l_kpdqf x)) (sPdqE x)
def b_ksortf:Code:=Tryz.f131.body.getD .skip
theorem b_ksortf_ok:Tryz.f131.body=some b_ksortf:=by kernel_rfl
def Psi_ksortf (k:Nat):Option KC:=if k=111 then some (.sc ⟨t141,t3,fcLen.sh,true⟩) else if k=140 then some (.io ioc_pdqf) else none
theorem Psi_ksortf_ok:PsiOk Tryz.prog U_k42 Psi_ksortf:=by
 intro k c h
 unfold Psi_ksortf at h
 split at h
 ·cases h;subst_vars;exact ⟨spec_k111,fun _ _=>M.det_det⟩
 split at h
 ·cases h;subst_vars;exact io_pdqf
 cases h
def ioc_sortf:IOC:=⟨⟨[(0,.own 200001),(1,.val t163)],[(200001,.arr t82)]⟩,⟨[],[(200001,.arr t82)]⟩,[],2,shSortE⟩
def ann_ksortf:Ann:=(.seq .leaf .leaf)
theorem l_ksortf (x):funIO U_k42 (tabT tab) noPhi Psi_ksortf Tryz.f131 b_ksortf ann_ksortf ⟨[(0,.own 200001),(1,.val t163)],[(200001,.arr t82)]⟩ ⟨[],[(200001,.arr t82)]⟩ [] x=S_slices_SortFunc fcLen.sh shPdqE x:=by kernel_rfl
theorem io_sortf:IoSpec Tryz.prog U_k42 131 ioc_sortf:=
 fnIO_ok mixOk tabOk noPhi_ok Psi_ksortf_ok Tryz.func131 b_ksortf_ok (by kernel_rfl) fun x=>M.le_trans (M.le_of_eq (l_ksortf x)) (sSortE x)
def b_k139:Code:=Tryz.f139.body.getD .skip
theorem b_k139_ok:Tryz.f139.body=some b_k139:=by kernel_rfl
def Psi_k139 (k:Nat):Option KC:=none
theorem Psi_k139_ok:PsiOk Tryz.prog noU Psi_k139:=by
 intro k c h
 unfold Psi_k139 at h
 cases h
def ann_k139:Ann:=(.seq .leaf (.seq .leaf .leaf))
theorem l_k139 (x):funI noU (tabT tab) noPhi Psi_k139 Tryz.f139 b_k139 ann_k139 t3 t4 x=S_cmp_isNaN_int  x:=by kernel_rfl
theorem spec_k139:FnSpec Tryz.prog 139 t3 t4 fcNaN.sh:=
 fn_ok mixOk tabOk noU_ok noPhi_ok Psi_k139_ok Tryz.func139 b_k139_ok (by kernel_rfl) fun x=>M.le_trans (M.le_of_eq (l_k139 x)) (sNaN x)
def b_k133:Code:=Tryz.f133.body.getD .skip
theorem b_k133_ok:Tryz.f133.body=some b_k133:=by kernel_rfl
def Psi_k133 (k:Nat):Option KC:=if k=139 then some (.sc ⟨t3,t4,fcNaN.sh,true⟩) else none
theorem Psi_k133_ok:PsiOk Tryz.prog noU Psi_k133:=by
 intro k c h
 unfold Psi_k133 at h
 split at h
 ·cases h;subst_vars;exact ⟨spec_k139,fun _ _=>M.det_det⟩
 cases h
def ann_k133:Ann:=(.seq .leaf (.seq .leaf (.seq .leaf (.seq (.seq .leaf (.cond (.seq (.seq .leaf (.cond (.seq .leaf .leaf) .leaf)) (.seq .leaf .leaf)) .leaf)) (.seq (.seq .leaf (.cond (.seq .leaf .leaf) .leaf)) (.seq (.seq .leaf (.cond (.seq .leaf .leaf) .leaf)) (.seq (.seq .leaf (.cond (.seq .leaf .leaf) .leaf)) (.seq .leaf .leaf))))))))
theorem l_k133 (x):funI noU (tabT tab) noPhi Psi_k133 Tryz.f133 b_k133 ann_k133 (.prod t3 t3) t3 x=S_cmp_Compare_int fcNaN.sh x:=by kernel_rfl
theorem spec_k133:FnSpec Tryz.prog 133 (.prod t3 t3) t3 fcCmp.sh:=
 fn_ok mixOk tabOk noU_ok noPhi_ok Psi_k133_ok Tryz.func133 b_k133_ok (by kernel_rfl) fun x=>M.le_trans (M.le_of_eq (l_k133 x)) (sCmp x)
def b_k132:Code:=Tryz.f132.body.getD .skip
theorem b_k132_ok:Tryz.f132.body=some b_k132:=by kernel_rfl
def Psi_k132 (k:Nat):Option KC:=if k=133 then some (.sc ⟨(.prod t3 t3),t3,fcCmp.sh,true⟩) else none
theorem Psi_k132_ok:PsiOk Tryz.prog noU Psi_k132:=by
 intro k c h
 unfold Psi_k132 at h
 split at h
 ·cases h;subst_vars;exact ⟨spec_k133,fun _ _=>M.det_det⟩
 cases h
def ann_k132:Ann:=(.seq .leaf (.seq .leaf .leaf))
theorem l_k132 (x):funI noU (tabT tab) noPhi Psi_k132 Tryz.f132 b_k132 ann_k132 (.prod t82 t82) t3 x=S_hire_book_open_c1 fcCmp.sh x:=by kernel_rfl
theorem spec_k132:FnSpec Tryz.prog 132 (.prod t82 t82) t3 fcCmpE.sh:=
 fn_ok mixOk tabOk noU_ok noPhi_ok Psi_k132_ok Tryz.func132 b_k132_ok (by kernel_rfl) fun x=>M.le_trans (M.le_of_eq (l_k132 x)) (sCmpE x)
def b_kopen:Code:=Tryz.f114.body.getD .skip
theorem b_kopen_ok:Tryz.f114.body=some b_kopen:=by kernel_rfl
def Psi_kopen (k:Nat):Option KC:=if k=130 then some (.sc ⟨t24,t24,fcClone.sh,true⟩) else if k=131 then some (.io ioc_sortf) else none
theorem Psi_kopen_ok:PsiOk Tryz.prog U_k42 Psi_kopen:=by
 intro k c h
 unfold Psi_kopen at h
 split at h
 ·cases h;subst_vars;exact ⟨spec_k130,fun _ _=>M.det_det⟩
 split at h
 ·cases h;subst_vars;exact io_sortf
 cases h
def ioc_open:IOC:=⟨⟨[(0,.loc 100000 0),(1,.val t24)],[(100000,.cells t79 [.val t22,.val t23,.val t24,.val t22,.val t3,.val t3,.val t3,.val t3,.val t3,.val t3,.val t3,.val t23,.own 100002]),(100002,.arr t80)]⟩,⟨[(0,.val t80),(1,.val t4)],[(100000,.cells t79 [.val t22,.val t23,.val t24,.val t22,.val t3,.val t3,.val t3,.val t3,.val t3,.val t3,.val t3,.val t23,.own 100002]),(100002,.arr t80)]⟩,[none,none],2,shOpen⟩
def ann_kopen:Ann:=(.seq .leaf (.join ⟨[(0,.loc 100000 0),(1,.val t24),(6,.loc 17 0)],[(17,.cells t103 [.val t24,.own 30000,.own 30001,.own 30002,.own 30003,.own 30004,.own 30005,.own 30006,.own 30007,.own 30008,.own 30009]),(100000,.cells t79 [.val t22,.val t23,.val t24,.val t22,.val t3,.val t3,.val t3,.val t3,.val t3,.val t3,.val t3,.val t23,.own 100002]),(100002,.arr t80),(30000,.arr t82),(30001,.arr t82),(30002,.arr t82),(30003,.arr t82),(30004,.arr t82),(30005,.arr t82),(30006,.arr t82),(30007,.arr t82),(30008,.arr t82),(30009,.arr t82)]⟩ .leaf (.join ⟨[(6,.loc 17 0)],[(17,.cells t103 [.val t24,.own 30000,.own 30001,.own 30002,.own 30003,.own 30004,.own 30005,.own 30006,.own 30007,.own 30008,.own 30009]),(30000,.arr t82),(30001,.arr t82),(30002,.arr t82),(30003,.arr t82),(30004,.arr t82),(30005,.arr t82),(30006,.arr t82),(30007,.arr t82),(30008,.arr t82),(30009,.arr t82),(100000,.cells t79 [.val t22,.val t23,.val t24,.val t22,.val t3,.val t3,.val t3,.val t3,.val t3,.val t3,.val t3,.val t23,.own 100002]),(100002,.arr t80)]⟩ (.seq .leaf (.block (.loop ⟨[(1,.val t24),(6,.loc 17 0),(21,.val t23),(22,.val t3),(23,.val t3)],[(17,.cells t103 [.val t24,.own 30000,.own 30001,.own 30002,.own 30003,.own 30004,.own 30005,.own 30006,.own 30007,.own 30008,.own 30009]),(30000,.arr t82),(30001,.arr t82),(30002,.arr t82),(30003,.arr t82),(30004,.arr t82),(30005,.arr t82),(30006,.arr t82),(30007,.arr t82),(30008,.arr t82),(30009,.arr t82),(100000,.cells t79 [.val t22,.val t23,.val t24,.val t22,.val t3,.val t3,.val t3,.val t3,.val t3,.val t3,.val t3,.val t23,.own 100002]),(100002,.arr t80)]⟩ (.seq .leaf (.seq (.cond .leaf .leaf) (.join ⟨[(1,.val t24),(6,.loc 17 0),(21,.val t23),(22,.val t3),(23,.val t3)],[(17,.cells t103 [.val t24,.own 30000,.own 30001,.own 30002,.own 30003,.own 30004,.own 30005,.own 30006,.own 30007,.own 30008,.own 30009]),(30000,.arr t82),(30001,.arr t82),(30002,.arr t82),(30003,.arr t82),(30004,.arr t82),(30005,.arr t82),(30006,.arr t82),(30007,.arr t82),(30008,.arr t82),(30009,.arr t82),(100000,.cells t79 [.val t22,.val t23,.val t24,.val t22,.val t3,.val t3,.val t3,.val t3,.val t3,.val t3,.val t3,.val t23,.own 100002]),(100002,.arr t80)]⟩ (.block (.seq .leaf (.split 8 4 10 .leaf))) .leaf)))))) (.join ⟨[(6,.loc 17 0)],[(17,.cells t103 [.val t24,.own 30000,.own 30001,.own 30002,.own 30003,.own 30004,.own 30005,.own 30006,.own 30007,.own 30008,.own 30009]),(30000,.arr t82),(30001,.arr t82),(30002,.arr t82),(30003,.arr t82),(30004,.arr t82),(30005,.arr t82),(30006,.arr t82),(30007,.arr t82),(30008,.arr t82),(30009,.arr t82),(100000,.cells t79 [.val t22,.val t23,.val t24,.val t22,.val t3,.val t3,.val t3,.val t3,.val t3,.val t3,.val t3,.val t23,.own 100002]),(100002,.arr t80)]⟩ (.seq .leaf (.block (.unr (.num 57 0 (.seq .leaf (.seq (.cond .leaf .leaf) (.join ⟨[(6,.loc 17 0),(56,.row [30000,30001,30002,30003,30004,30005,30006,30007,30008,30009]),(57,.val t3)],[(17,.cells t103 [.val t24,.own 30000,.own 30001,.own 30002,.own 30003,.own 30004,.own 30005,.own 30006,.own 30007,.own 30008,.own 30009]),(30000,.arr t82),(30001,.arr t82),(30002,.arr t82),(30003,.arr t82),(30004,.arr t82),(30005,.arr t82),(30006,.arr t82),(30007,.arr t82),(30008,.arr t82),(30009,.arr t82),(100000,.cells t79 [.val t22,.val t23,.val t24,.val t22,.val t3,.val t3,.val t3,.val t3,.val t3,.val t3,.val t3,.val t23,.own 100002]),(100002,.arr t80)]⟩ (.block (.seq .leaf (.seq .leaf (.seq .leaf (.block (.loop ⟨[(6,.loc 17 0),(10,.own 30000),(56,.row [30000,30001,30002,30003,30004,30005,30006,30007,30008,30009]),(57,.val t3),(62,.own 30000),(63,.val t3),(64,.val t3)],[(17,.cells t103 [.val t24,.own 30000,.own 30001,.own 30002,.own 30003,.own 30004,.own 30005,.own 30006,.own 30007,.own 30008,.own 30009]),(30000,.arr t82),(30001,.arr t82),(30002,.arr t82),(30003,.arr t82),(30004,.arr t82),(30005,.arr t82),(30006,.arr t82),(30007,.arr t82),(30008,.arr t82),(30009,.arr t82),(100000,.cells t79 [.val t22,.val t23,.val t24,.val t22,.val t3,.val t3,.val t3,.val t3,.val t3,.val t3,.val t3,.val t23,.own 100002]),(100002,.arr t80)]⟩ (.seq .leaf (.seq (.cond .leaf .leaf) (.seq (.block (.seq .leaf (.seq .leaf (.join ⟨[(6,.loc 17 0),(10,.own 30000),(11,.val t3),(12,.loc 12 0),(13,.val t3),(56,.row [30000,30001,30002,30003,30004,30005,30006,30007,30008,30009]),(57,.val t3),(62,.own 30000),(63,.val t3),(64,.val t3)],[(12,.whole t82),(17,.cells t103 [.val t24,.own 30000,.own 30001,.own 30002,.own 30003,.own 30004,.own 30005,.own 30006,.own 30007,.own 30008,.own 30009]),(30000,.arr t82),(30001,.arr t82),(30002,.arr t82),(30003,.arr t82),(30004,.arr t82),(30005,.arr t82),(30006,.arr t82),(30007,.arr t82),(30008,.arr t82),(30009,.arr t82),(100000,.cells t79 [.val t22,.val t23,.val t24,.val t22,.val t3,.val t3,.val t3,.val t3,.val t3,.val t3,.val t3,.val t23,.own 100002]),(100002,.arr t80)]⟩ (.seq .leaf (.cond .leaf .leaf)) (.seq .leaf (.cond (.seq .leaf .leaf) .leaf)))))) .leaf))))))))) .leaf)))) (.unr (.num 57 1 (.seq .leaf (.seq (.cond .leaf .leaf) (.join ⟨[(6,.loc 17 0),(56,.row [30000,30001,30002,30003,30004,30005,30006,30007,30008,30009]),(57,.val t3)],[(17,.cells t103 [.val t24,.own 30000,.own 30001,.own 30002,.own 30003,.own 30004,.own 30005,.own 30006,.own 30007,.own 30008,.own 30009]),(30000,.arr t82),(30001,.arr t82),(30002,.arr t82),(30003,.arr t82),(30004,.arr t82),(30005,.arr t82),(30006,.arr t82),(30007,.arr t82),(30008,.arr t82),(30009,.arr t82),(100000,.cells t79 [.val t22,.val t23,.val t24,.val t22,.val t3,.val t3,.val t3,.val t3,.val t3,.val t3,.val t3,.val t23,.own 100002]),(100002,.arr t80)]⟩ (.block (.seq .leaf (.seq .leaf (.seq .leaf (.block (.loop ⟨[(6,.loc 17 0),(10,.own 30001),(56,.row [30000,30001,30002,30003,30004,30005,30006,30007,30008,30009]),(57,.val t3),(62,.own 30001),(63,.val t3),(64,.val t3)],[(17,.cells t103 [.val t24,.own 30000,.own 30001,.own 30002,.own 30003,.own 30004,.own 30005,.own 30006,.own 30007,.own 30008,.own 30009]),(30000,.arr t82),(30001,.arr t82),(30002,.arr t82),(30003,.arr t82),(30004,.arr t82),(30005,.arr t82),(30006,.arr t82),(30007,.arr t82),(30008,.arr t82),(30009,.arr t82),(100000,.cells t79 [.val t22,.val t23,.val t24,.val t22,.val t3,.val t3,.val t3,.val t3,.val t3,.val t3,.val t3,.val t23,.own 100002]),(100002,.arr t80)]⟩ (.seq .leaf (.seq (.cond .leaf .leaf) (.seq (.block (.seq .leaf (.seq .leaf (.join ⟨[(6,.loc 17 0),(10,.own 30001),(11,.val t3),(12,.loc 12 0),(13,.val t3),(56,.row [30000,30001,30002,30003,30004,30005,30006,30007,30008,30009]),(57,.val t3),(62,.own 30001),(63,.val t3),(64,.val t3)],[(12,.whole t82),(17,.cells t103 [.val t24,.own 30000,.own 30001,.own 30002,.own 30003,.own 30004,.own 30005,.own 30006,.own 30007,.own 30008,.own 30009]),(30000,.arr t82),(30001,.arr t82),(30002,.arr t82),(30003,.arr t82),(30004,.arr t82),(30005,.arr t82),(30006,.arr t82),(30007,.arr t82),(30008,.arr t82),(30009,.arr t82),(100000,.cells t79 [.val t22,.val t23,.val t24,.val t22,.val t3,.val t3,.val t3,.val t3,.val t3,.val t3,.val t3,.val t23,.own 100002]),(100002,.arr t80)]⟩ (.seq .leaf (.cond .leaf .leaf)) (.seq .leaf (.cond (.seq .leaf .leaf) .leaf)))))) .leaf))))))))) .leaf)))) (.unr (.num 57 2 (.seq .leaf (.seq (.cond .leaf .leaf) (.join ⟨[(6,.loc 17 0),(56,.row [30000,30001,30002,30003,30004,30005,30006,30007,30008,30009]),(57,.val t3)],[(17,.cells t103 [.val t24,.own 30000,.own 30001,.own 30002,.own 30003,.own 30004,.own 30005,.own 30006,.own 30007,.own 30008,.own 30009]),(30000,.arr t82),(30001,.arr t82),(30002,.arr t82),(30003,.arr t82),(30004,.arr t82),(30005,.arr t82),(30006,.arr t82),(30007,.arr t82),(30008,.arr t82),(30009,.arr t82),(100000,.cells t79 [.val t22,.val t23,.val t24,.val t22,.val t3,.val t3,.val t3,.val t3,.val t3,.val t3,.val t3,.val t23,.own 100002]),(100002,.arr t80)]⟩ (.block (.seq .leaf (.seq .leaf (.seq .leaf (.block (.loop ⟨[(6,.loc 17 0),(10,.own 30002),(56,.row [30000,30001,30002,30003,30004,30005,30006,30007,30008,30009]),(57,.val t3),(62,.own 30002),(63,.val t3),(64,.val t3)],[(17,.cells t103 [.val t24,.own 30000,.own 30001,.own 30002,.own 30003,.own 30004,.own 30005,.own 30006,.own 30007,.own 30008,.own 30009]),(30000,.arr t82),(30001,.arr t82),(30002,.arr t82),(30003,.arr t82),(30004,.arr t82),(30005,.arr t82),(30006,.arr t82),(30007,.arr t82),(30008,.arr t82),(30009,.arr t82),(100000,.cells t79 [.val t22,.val t23,.val t24,.val t22,.val t3,.val t3,.val t3,.val t3,.val t3,.val t3,.val t3,.val t23,.own 100002]),(100002,.arr t80)]⟩ (.seq .leaf (.seq (.cond .leaf .leaf) (.seq (.block (.seq .leaf (.seq .leaf (.join ⟨[(6,.loc 17 0),(10,.own 30002),(11,.val t3),(12,.loc 12 0),(13,.val t3),(56,.row [30000,30001,30002,30003,30004,30005,30006,30007,30008,30009]),(57,.val t3),(62,.own 30002),(63,.val t3),(64,.val t3)],[(12,.whole t82),(17,.cells t103 [.val t24,.own 30000,.own 30001,.own 30002,.own 30003,.own 30004,.own 30005,.own 30006,.own 30007,.own 30008,.own 30009]),(30000,.arr t82),(30001,.arr t82),(30002,.arr t82),(30003,.arr t82),(30004,.arr t82),(30005,.arr t82),(30006,.arr t82),(30007,.arr t82),(30008,.arr t82),(30009,.arr t82),(100000,.cells t79 [.val t22,.val t23,.val t24,.val t22,.val t3,.val t3,.val t3,.val t3,.val t3,.val t3,.val t3,.val t23,.own 100002]),(100002,.arr t80)]⟩ (.seq .leaf (.cond .leaf .leaf)) (.seq .leaf (.cond (.seq .leaf .leaf) .leaf)))))) .leaf))))))))) .leaf)))) (.unr (.num 57 3 (.seq .leaf (.seq (.cond .leaf .leaf) (.join ⟨[(6,.loc 17 0),(56,.row [30000,30001,30002,30003,30004,30005,30006,30007,30008,30009]),(57,.val t3)],[(17,.cells t103 [.val t24,.own 30000,.own 30001,.own 30002,.own 30003,.own 30004,.own 30005,.own 30006,.own 30007,.own 30008,.own 30009]),(30000,.arr t82),(30001,.arr t82),(30002,.arr t82),(30003,.arr t82),(30004,.arr t82),(30005,.arr t82),(30006,.arr t82),(30007,.arr t82),(30008,.arr t82),(30009,.arr t82),(100000,.cells t79 [.val t22,.val t23,.val t24,.val t22,.val t3,.val t3,.val t3,.val t3,.val t3,.val t3,.val t3,.val t23,.own 100002]),(100002,.arr t80)]⟩ (.block (.seq .leaf (.seq .leaf (.seq .leaf (.block (.loop ⟨[(6,.loc 17 0),(10,.own 30003),(56,.row [30000,30001,30002,30003,30004,30005,30006,30007,30008,30009]),(57,.val t3),(62,.own 30003),(63,.val t3),(64,.val t3)],[(17,.cells t103 [.val t24,.own 30000,.own 30001,.own 30002,.own 30003,.own 30004,.own 30005,.own 30006,.own 30007,.own 30008,.own 30009]),(30000,.arr t82),(30001,.arr t82),(30002,.arr t82),(30003,.arr t82),(30004,.arr t82),(30005,.arr t82),(30006,.arr t82),(30007,.arr t82),(30008,.arr t82),(30009,.arr t82),(100000,.cells t79 [.val t22,.val t23,.val t24,.val t22,.val t3,.val t3,.val t3,.val t3,.val t3,.val t3,.val t3,.val t23,.own 100002]),(100002,.arr t80)]⟩ (.seq .leaf (.seq (.cond .leaf .leaf) (.seq (.block (.seq .leaf (.seq .leaf (.join ⟨[(6,.loc 17 0),(10,.own 30003),(11,.val t3),(12,.loc 12 0),(13,.val t3),(56,.row [30000,30001,30002,30003,30004,30005,30006,30007,30008,30009]),(57,.val t3),(62,.own 30003),(63,.val t3),(64,.val t3)],[(12,.whole t82),(17,.cells t103 [.val t24,.own 30000,.own 30001,.own 30002,.own 30003,.own 30004,.own 30005,.own 30006,.own 30007,.own 30008,.own 30009]),(30000,.arr t82),(30001,.arr t82),(30002,.arr t82),(30003,.arr t82),(30004,.arr t82),(30005,.arr t82),(30006,.arr t82),(30007,.arr t82),(30008,.arr t82),(30009,.arr t82),(100000,.cells t79 [.val t22,.val t23,.val t24,.val t22,.val t3,.val t3,.val t3,.val t3,.val t3,.val t3,.val t3,.val t23,.own 100002]),(100002,.arr t80)]⟩ (.seq .leaf (.cond .leaf .leaf)) (.seq .leaf (.cond (.seq .leaf .leaf) .leaf)))))) .leaf))))))))) .leaf)))) (.unr (.num 57 4 (.seq .leaf (.seq (.cond .leaf .leaf) (.join ⟨[(6,.loc 17 0),(56,.row [30000,30001,30002,30003,30004,30005,30006,30007,30008,30009]),(57,.val t3)],[(17,.cells t103 [.val t24,.own 30000,.own 30001,.own 30002,.own 30003,.own 30004,.own 30005,.own 30006,.own 30007,.own 30008,.own 30009]),(30000,.arr t82),(30001,.arr t82),(30002,.arr t82),(30003,.arr t82),(30004,.arr t82),(30005,.arr t82),(30006,.arr t82),(30007,.arr t82),(30008,.arr t82),(30009,.arr t82),(100000,.cells t79 [.val t22,.val t23,.val t24,.val t22,.val t3,.val t3,.val t3,.val t3,.val t3,.val t3,.val t3,.val t23,.own 100002]),(100002,.arr t80)]⟩ (.block (.seq .leaf (.seq .leaf (.seq .leaf (.block (.loop ⟨[(6,.loc 17 0),(10,.own 30004),(56,.row [30000,30001,30002,30003,30004,30005,30006,30007,30008,30009]),(57,.val t3),(62,.own 30004),(63,.val t3),(64,.val t3)],[(17,.cells t103 [.val t24,.own 30000,.own 30001,.own 30002,.own 30003,.own 30004,.own 30005,.own 30006,.own 30007,.own 30008,.own 30009]),(30000,.arr t82),(30001,.arr t82),(30002,.arr t82),(30003,.arr t82),(30004,.arr t82),(30005,.arr t82),(30006,.arr t82),(30007,.arr t82),(30008,.arr t82),(30009,.arr t82),(100000,.cells t79 [.val t22,.val t23,.val t24,.val t22,.val t3,.val t3,.val t3,.val t3,.val t3,.val t3,.val t3,.val t23,.own 100002]),(100002,.arr t80)]⟩ (.seq .leaf (.seq (.cond .leaf .leaf) (.seq (.block (.seq .leaf (.seq .leaf (.join ⟨[(6,.loc 17 0),(10,.own 30004),(11,.val t3),(12,.loc 12 0),(13,.val t3),(56,.row [30000,30001,30002,30003,30004,30005,30006,30007,30008,30009]),(57,.val t3),(62,.own 30004),(63,.val t3),(64,.val t3)],[(12,.whole t82),(17,.cells t103 [.val t24,.own 30000,.own 30001,.own 30002,.own 30003,.own 30004,.own 30005,.own 30006,.own 30007,.own 30008,.own 30009]),(30000,.arr t82),(30001,.arr t82),(30002,.arr t82),(30003,.arr t82),(30004,.arr t82),(30005,.arr t82),(30006,.arr t82),(30007,.arr t82),(30008,.arr t82),(30009,.arr t82),(100000,.cells t79 [.val t22,.val t23,.val t24,.val t22,.val t3,.val t3,.val t3,.val t3,.val t3,.val t3,.val t3,.val t23,.own 100002]),(100002,.arr t80)]⟩ (.seq .leaf (.cond .leaf .leaf)) (.seq .leaf (.cond (.seq .leaf .leaf) .leaf)))))) .leaf))))))))) .leaf)))) (.unr (.num 57 5 (.seq .leaf (.seq (.cond .leaf .leaf) (.join ⟨[(6,.loc 17 0),(56,.row [30000,30001,30002,30003,30004,30005,30006,30007,30008,30009]),(57,.val t3)],[(17,.cells t103 [.val t24,.own 30000,.own 30001,.own 30002,.own 30003,.own 30004,.own 30005,.own 30006,.own 30007,.own 30008,.own 30009]),(30000,.arr t82),(30001,.arr t82),(30002,.arr t82),(30003,.arr t82),(30004,.arr t82),(30005,.arr t82),(30006,.arr t82),(30007,.arr t82),(30008,.arr t82),(30009,.arr t82),(100000,.cells t79 [.val t22,.val t23,.val t24,.val t22,.val t3,.val t3,.val t3,.val t3,.val t3,.val t3,.val t3,.val t23,.own 100002]),(100002,.arr t80)]⟩ (.block (.seq .leaf (.seq .leaf (.seq .leaf (.block (.loop ⟨[(6,.loc 17 0),(10,.own 30005),(56,.row [30000,30001,30002,30003,30004,30005,30006,30007,30008,30009]),(57,.val t3),(62,.own 30005),(63,.val t3),(64,.val t3)],[(17,.cells t103 [.val t24,.own 30000,.own 30001,.own 30002,.own 30003,.own 30004,.own 30005,.own 30006,.own 30007,.own 30008,.own 30009]),(30000,.arr t82),(30001,.arr t82),(30002,.arr t82),(30003,.arr t82),(30004,.arr t82),(30005,.arr t82),(30006,.arr t82),(30007,.arr t82),(30008,.arr t82),(30009,.arr t82),(100000,.cells t79 [.val t22,.val t23,.val t24,.val t22,.val t3,.val t3,.val t3,.val t3,.val t3,.val t3,.val t3,.val t23,.own 100002]),(100002,.arr t80)]⟩ (.seq .leaf (.seq (.cond .leaf .leaf) (.seq (.block (.seq .leaf (.seq .leaf (.join ⟨[(6,.loc 17 0),(10,.own 30005),(11,.val t3),(12,.loc 12 0),(13,.val t3),(56,.row [30000,30001,30002,30003,30004,30005,30006,30007,30008,30009]),(57,.val t3),(62,.own 30005),(63,.val t3),(64,.val t3)],[(12,.whole t82),(17,.cells t103 [.val t24,.own 30000,.own 30001,.own 30002,.own 30003,.own 30004,.own 30005,.own 30006,.own 30007,.own 30008,.own 30009]),(30000,.arr t82),(30001,.arr t82),(30002,.arr t82),(30003,.arr t82),(30004,.arr t82),(30005,.arr t82),(30006,.arr t82),(30007,.arr t82),(30008,.arr t82),(30009,.arr t82),(100000,.cells t79 [.val t22,.val t23,.val t24,.val t22,.val t3,.val t3,.val t3,.val t3,.val t3,.val t3,.val t3,.val t23,.own 100002]),(100002,.arr t80)]⟩ (.seq .leaf (.cond .leaf .leaf)) (.seq .leaf (.cond (.seq .leaf .leaf) .leaf)))))) .leaf))))))))) .leaf)))) (.unr (.num 57 6 (.seq .leaf (.seq (.cond .leaf .leaf) (.join ⟨[(6,.loc 17 0),(56,.row [30000,30001,30002,30003,30004,30005,30006,30007,30008,30009]),(57,.val t3)],[(17,.cells t103 [.val t24,.own 30000,.own 30001,.own 30002,.own 30003,.own 30004,.own 30005,.own 30006,.own 30007,.own 30008,.own 30009]),(30000,.arr t82),(30001,.arr t82),(30002,.arr t82),(30003,.arr t82),(30004,.arr t82),(30005,.arr t82),(30006,.arr t82),(30007,.arr t82),(30008,.arr t82),(30009,.arr t82),(100000,.cells t79 [.val t22,.val t23,.val t24,.val t22,.val t3,.val t3,.val t3,.val t3,.val t3,.val t3,.val t3,.val t23,.own 100002]),(100002,.arr t80)]⟩ (.block (.seq .leaf (.seq .leaf (.seq .leaf (.block (.loop ⟨[(6,.loc 17 0),(10,.own 30006),(56,.row [30000,30001,30002,30003,30004,30005,30006,30007,30008,30009]),(57,.val t3),(62,.own 30006),(63,.val t3),(64,.val t3)],[(17,.cells t103 [.val t24,.own 30000,.own 30001,.own 30002,.own 30003,.own 30004,.own 30005,.own 30006,.own 30007,.own 30008,.own 30009]),(30000,.arr t82),(30001,.arr t82),(30002,.arr t82),(30003,.arr t82),(30004,.arr t82),(30005,.arr t82),(30006,.arr t82),(30007,.arr t82),(30008,.arr t82),(30009,.arr t82),(100000,.cells t79 [.val t22,.val t23,.val t24,.val t22,.val t3,.val t3,.val t3,.val t3,.val t3,.val t3,.val t3,.val t23,.own 100002]),(100002,.arr t80)]⟩ (.seq .leaf (.seq (.cond .leaf .leaf) (.seq (.block (.seq .leaf (.seq .leaf (.join ⟨[(6,.loc 17 0),(10,.own 30006),(11,.val t3),(12,.loc 12 0),(13,.val t3),(56,.row [30000,30001,30002,30003,30004,30005,30006,30007,30008,30009]),(57,.val t3),(62,.own 30006),(63,.val t3),(64,.val t3)],[(12,.whole t82),(17,.cells t103 [.val t24,.own 30000,.own 30001,.own 30002,.own 30003,.own 30004,.own 30005,.own 30006,.own 30007,.own 30008,.own 30009]),(30000,.arr t82),(30001,.arr t82),(30002,.arr t82),(30003,.arr t82),(30004,.arr t82),(30005,.arr t82),(30006,.arr t82),(30007,.arr t82),(30008,.arr t82),(30009,.arr t82),(100000,.cells t79 [.val t22,.val t23,.val t24,.val t22,.val t3,.val t3,.val t3,.val t3,.val t3,.val t3,.val t3,.val t23,.own 100002]),(100002,.arr t80)]⟩ (.seq .leaf (.cond .leaf .leaf)) (.seq .leaf (.cond (.seq .leaf .leaf) .leaf)))))) .leaf))))))))) .leaf)))) (.unr (.num 57 7 (.seq .leaf (.seq (.cond .leaf .leaf) (.join ⟨[(6,.loc 17 0),(56,.row [30000,30001,30002,30003,30004,30005,30006,30007,30008,30009]),(57,.val t3)],[(17,.cells t103 [.val t24,.own 30000,.own 30001,.own 30002,.own 30003,.own 30004,.own 30005,.own 30006,.own 30007,.own 30008,.own 30009]),(30000,.arr t82),(30001,.arr t82),(30002,.arr t82),(30003,.arr t82),(30004,.arr t82),(30005,.arr t82),(30006,.arr t82),(30007,.arr t82),(30008,.arr t82),(30009,.arr t82),(100000,.cells t79 [.val t22,.val t23,.val t24,.val t22,.val t3,.val t3,.val t3,.val t3,.val t3,.val t3,.val t3,.val t23,.own 100002]),(100002,.arr t80)]⟩ (.block (.seq .leaf (.seq .leaf (.seq .leaf (.block (.loop ⟨[(6,.loc 17 0),(10,.own 30007),(56,.row [30000,30001,30002,30003,30004,30005,30006,30007,30008,30009]),(57,.val t3),(62,.own 30007),(63,.val t3),(64,.val t3)],[(17,.cells t103 [.val t24,.own 30000,.own 30001,.own 30002,.own 30003,.own 30004,.own 30005,.own 30006,.own 30007,.own 30008,.own 30009]),(30000,.arr t82),(30001,.arr t82),(30002,.arr t82),(30003,.arr t82),(30004,.arr t82),(30005,.arr t82),(30006,.arr t82),(30007,.arr t82),(30008,.arr t82),(30009,.arr t82),(100000,.cells t79 [.val t22,.val t23,.val t24,.val t22,.val t3,.val t3,.val t3,.val t3,.val t3,.val t3,.val t3,.val t23,.own 100002]),(100002,.arr t80)]⟩ (.seq .leaf (.seq (.cond .leaf .leaf) (.seq (.block (.seq .leaf (.seq .leaf (.join ⟨[(6,.loc 17 0),(10,.own 30007),(11,.val t3),(12,.loc 12 0),(13,.val t3),(56,.row [30000,30001,30002,30003,30004,30005,30006,30007,30008,30009]),(57,.val t3),(62,.own 30007),(63,.val t3),(64,.val t3)],[(12,.whole t82),(17,.cells t103 [.val t24,.own 30000,.own 30001,.own 30002,.own 30003,.own 30004,.own 30005,.own 30006,.own 30007,.own 30008,.own 30009]),(30000,.arr t82),(30001,.arr t82),(30002,.arr t82),(30003,.arr t82),(30004,.arr t82),(30005,.arr t82),(30006,.arr t82),(30007,.arr t82),(30008,.arr t82),(30009,.arr t82),(100000,.cells t79 [.val t22,.val t23,.val t24,.val t22,.val t3,.val t3,.val t3,.val t3,.val t3,.val t3,.val t3,.val t23,.own 100002]),(100002,.arr t80)]⟩ (.seq .leaf (.cond .leaf .leaf)) (.seq .leaf (.cond (.seq .leaf .leaf) .leaf)))))) .leaf))))))))) .leaf)))) (.unr (.num 57 8 (.seq .leaf (.seq (.cond .leaf .leaf) (.join ⟨[(6,.loc 17 0),(56,.row [30000,30001,30002,30003,30004,30005,30006,30007,30008,30009]),(57,.val t3)],[(17,.cells t103 [.val t24,.own 30000,.own 30001,.own 30002,.own 30003,.own 30004,.own 30005,.own 30006,.own 30007,.own 30008,.own 30009]),(30000,.arr t82),(30001,.arr t82),(30002,.arr t82),(30003,.arr t82),(30004,.arr t82),(30005,.arr t82),(30006,.arr t82),(30007,.arr t82),(30008,.arr t82),(30009,.arr t82),(100000,.cells t79 [.val t22,.val t23,.val t24,.val t22,.val t3,.val t3,.val t3,.val t3,.val t3,.val t3,.val t3,.val t23,.own 100002]),(100002,.arr t80)]⟩ (.block (.seq .leaf (.seq .leaf (.seq .leaf (.block (.loop ⟨[(6,.loc 17 0),(10,.own 30008),(56,.row [30000,30001,30002,30003,30004,30005,30006,30007,30008,30009]),(57,.val t3),(62,.own 30008),(63,.val t3),(64,.val t3)],[(17,.cells t103 [.val t24,.own 30000,.own 30001,.own 30002,.own 30003,.own 30004,.own 30005,.own 30006,.own 30007,.own 30008,.own 30009]),(30000,.arr t82),(30001,.arr t82),(30002,.arr t82),(30003,.arr t82),(30004,.arr t82),(30005,.arr t82),(30006,.arr t82),(30007,.arr t82),(30008,.arr t82),(30009,.arr t82),(100000,.cells t79 [.val t22,.val t23,.val t24,.val t22,.val t3,.val t3,.val t3,.val t3,.val t3,.val t3,.val t3,.val t23,.own 100002]),(100002,.arr t80)]⟩ (.seq .leaf (.seq (.cond .leaf .leaf) (.seq (.block (.seq .leaf (.seq .leaf (.join ⟨[(6,.loc 17 0),(10,.own 30008),(11,.val t3),(12,.loc 12 0),(13,.val t3),(56,.row [30000,30001,30002,30003,30004,30005,30006,30007,30008,30009]),(57,.val t3),(62,.own 30008),(63,.val t3),(64,.val t3)],[(12,.whole t82),(17,.cells t103 [.val t24,.own 30000,.own 30001,.own 30002,.own 30003,.own 30004,.own 30005,.own 30006,.own 30007,.own 30008,.own 30009]),(30000,.arr t82),(30001,.arr t82),(30002,.arr t82),(30003,.arr t82),(30004,.arr t82),(30005,.arr t82),(30006,.arr t82),(30007,.arr t82),(30008,.arr t82),(30009,.arr t82),(100000,.cells t79 [.val t22,.val t23,.val t24,.val t22,.val t3,.val t3,.val t3,.val t3,.val t3,.val t3,.val t3,.val t23,.own 100002]),(100002,.arr t80)]⟩ (.seq .leaf (.cond .leaf .leaf)) (.seq .leaf (.cond (.seq .leaf .leaf) .leaf)))))) .leaf))))))))) .leaf)))) (.unr (.num 57 9 (.seq .leaf (.seq (.cond .leaf .leaf) (.join ⟨[(6,.loc 17 0),(56,.row [30000,30001,30002,30003,30004,30005,30006,30007,30008,30009]),(57,.val t3)],[(17,.cells t103 [.val t24,.own 30000,.own 30001,.own 30002,.own 30003,.own 30004,.own 30005,.own 30006,.own 30007,.own 30008,.own 30009]),(30000,.arr t82),(30001,.arr t82),(30002,.arr t82),(30003,.arr t82),(30004,.arr t82),(30005,.arr t82),(30006,.arr t82),(30007,.arr t82),(30008,.arr t82),(30009,.arr t82),(100000,.cells t79 [.val t22,.val t23,.val t24,.val t22,.val t3,.val t3,.val t3,.val t3,.val t3,.val t3,.val t3,.val t23,.own 100002]),(100002,.arr t80)]⟩ (.block (.seq .leaf (.seq .leaf (.seq .leaf (.block (.loop ⟨[(6,.loc 17 0),(10,.own 30009),(56,.row [30000,30001,30002,30003,30004,30005,30006,30007,30008,30009]),(57,.val t3),(62,.own 30009),(63,.val t3),(64,.val t3)],[(17,.cells t103 [.val t24,.own 30000,.own 30001,.own 30002,.own 30003,.own 30004,.own 30005,.own 30006,.own 30007,.own 30008,.own 30009]),(30000,.arr t82),(30001,.arr t82),(30002,.arr t82),(30003,.arr t82),(30004,.arr t82),(30005,.arr t82),(30006,.arr t82),(30007,.arr t82),(30008,.arr t82),(30009,.arr t82),(100000,.cells t79 [.val t22,.val t23,.val t24,.val t22,.val t3,.val t3,.val t3,.val t3,.val t3,.val t3,.val t3,.val t23,.own 100002]),(100002,.arr t80)]⟩ (.seq .leaf (.seq (.cond .leaf .leaf) (.seq (.block (.seq .leaf (.seq .leaf (.join ⟨[(6,.loc 17 0),(10,.own 30009),(11,.val t3),(12,.loc 12 0),(13,.val t3),(56,.row [30000,30001,30002,30003,30004,30005,30006,30007,30008,30009]),(57,.val t3),(62,.own 30009),(63,.val t3),(64,.val t3)],[(12,.whole t82),(17,.cells t103 [.val t24,.own 30000,.own 30001,.own 30002,.own 30003,.own 30004,.own 30005,.own 30006,.own 30007,.own 30008,.own 30009]),(30000,.arr t82),(30001,.arr t82),(30002,.arr t82),(30003,.arr t82),(30004,.arr t82),(30005,.arr t82),(30006,.arr t82),(30007,.arr t82),(30008,.arr t82),(30009,.arr t82),(100000,.cells t79 [.val t22,.val t23,.val t24,.val t22,.val t3,.val t3,.val t3,.val t3,.val t3,.val t3,.val t3,.val t23,.own 100002]),(100002,.arr t80)]⟩ (.seq .leaf (.cond .leaf .leaf)) (.seq .leaf (.cond (.seq .leaf .leaf) .leaf)))))) .leaf))))))))) .leaf)))) (.unr (.num 57 10 (.seq .leaf (.seq (.cond .leaf .leaf) .leaf))) .leaf))))))))))))) (.seq .leaf .leaf)))))
theorem l_kopen (x):funIO U_k42 (tabT tab) noPhi Psi_kopen Tryz.f114 b_kopen ann_kopen ⟨[(0,.loc 100000 0),(1,.val t24)],[(100000,.cells t79 [.val t22,.val t23,.val t24,.val t22,.val t3,.val t3,.val t3,.val t3,.val t3,.val t3,.val t3,.val t23,.own 100002]),(100002,.arr t80)]⟩ ⟨[(0,.val t80),(1,.val t4)],[(100000,.cells t79 [.val t22,.val t23,.val t24,.val t22,.val t3,.val t3,.val t3,.val t3,.val t3,.val t3,.val t3,.val t23,.own 100002]),(100002,.arr t80)]⟩ [none,none] x=S_hire_book_open fcClone.sh shSortE fcCmpE.sh x:=by kernel_rfl
theorem io_open:IoSpec Tryz.prog U_k42 114 ioc_open:=
 fnIO_ok mixOk tabOk noPhi_ok Psi_kopen_ok Tryz.func114 b_kopen_ok (by kernel_rfl) fun x=>M.le_trans (M.le_of_eq (l_kopen x)) (sOpen x)
def b_ksearch:Code:=Tryz.f86.body.getD .skip
theorem b_ksearch_ok:Tryz.f86.body=some b_ksearch:=by kernel_rfl
def ioc_search (f:Nat):IOC:=⟨⟨[(0,.loc 100000 0),(1,.val t24)],[(100000,.cells t79 [.val t22,.val t23,.val t24,.val t22,.val t3,.val t3,.val t3,.val t3,.val t3,.val t3,.val t3,.val t23,.own 100002]),(100002,.arr t80)]⟩,⟨[],[(100000,.cells t79 [.val t22,.val t23,.val t24,.val t22,.val t3,.val t3,.val t3,.val t3,.val t3,.val t3,.val t3,.val t23,.own 100002]),(100002,.arr t80)]⟩,[],2,shSearchF f⟩
def Psi_ksearch (f:Nat) (k:Nat):Option KC:=if k=86 then some (.io (ioc_search f)) else if k=114 then some (.io ioc_open) else none
theorem Psi_ksearch_ok (f:Nat) (ih:IoSpec Tryz.prog U_k42 86 (ioc_search f)):PsiOk Tryz.prog U_k42 (Psi_ksearch f):=by
 intro k c h
 unfold Psi_ksearch at h
 split at h
 ·cases h;subst_vars;exact ih
 split at h
 ·cases h;subst_vars;exact io_open
 cases h
def ann_ksearch:Ann:=(.seq .leaf (.seq (.seq .leaf (.cond (.join ⟨[],[(100000,.cells t79 [.val t22,.val t23,.val t24,.val t22,.val t3,.val t3,.val t3,.val t3,.val t3,.val t3,.val t3,.val t23,.own 100002]),(100002,.arr t80)]⟩ (.seq .leaf (.seq .leaf (.cond .leaf .leaf))) .leaf) .leaf)) (.seq .leaf (.block (.loop ⟨[(0,.loc 100000 0),(1,.val t24),(4,.val t3),(7,.val t3)],[(100000,.cells t79 [.val t22,.val t23,.val t24,.val t22,.val t3,.val t3,.val t3,.val t3,.val t3,.val t3,.val t3,.val t23,.own 100002]),(100002,.arr t80)]⟩ (.seq (.seq .leaf (.cond .leaf .leaf)) (.seq (.block .leaf) .leaf)))))))
theorem l_ksearch (f:Nat) (x):funIO U_k42 (tabT tab) noPhi (Psi_ksearch f) Tryz.f86 b_ksearch ann_ksearch ⟨[(0,.loc 100000 0),(1,.val t24)],[(100000,.cells t79 [.val t22,.val t23,.val t24,.val t22,.val t3,.val t3,.val t3,.val t3,.val t3,.val t3,.val t3,.val t23,.own 100002]),(100002,.arr t80)]⟩ ⟨[],[(100000,.cells t79 [.val t22,.val t23,.val t24,.val t22,.val t3,.val t3,.val t3,.val t3,.val t3,.val t3,.val t3,.val t23,.own 100002]),(100002,.arr t80)]⟩ [] x=S_hire_book_search (shSearchF f) shOpen x:=by kernel_rfl
theorem io_search:∀ f,IoSpec Tryz.prog U_k42 86 (ioc_search f)
 | 0=>fnIO_ok mixOk tabOk noPhi_ok (Ψ:=fun _=>none) (fun k c h=>by cases h) (ann:=ann_ksearch) Tryz.func86 b_ksearch_ok (by kernel_rfl) fun x hs=>absurd hs (shSearch_zero x)
 | f+1=>fnIO_ok mixOk tabOk noPhi_ok (Psi_ksearch_ok f (io_search f)) Tryz.func86 b_ksearch_ok (by kernel_rfl) fun x=>M.le_trans (M.le_of_eq (l_ksearch f x)) (sSearch f x)
def b_k42:Code:=Tryz.f42.body.getD .skip
theorem b_k42_ok:Tryz.f42.body=some b_k42:=by kernel_rfl
theorem U_k42_ok:FnTabOk Tryz.prog U_k42 where
 fnv:=by
  intro k v h
  simp only [U_k42] at h
  split at h
  ·cases h;subst_vars;exact spec_k132
  cases h
 clv:=by
  intro k v h
  simp only [U_k42] at h
  split at h
  ·cases h;subst_vars;exact ⟨rfl,spec_k84⟩
  cases h
def Psi_k42 (k:Nat):Option KC:=if k=26 then some (.sc ⟨t28,t34,fcCheck.sh,true⟩) else if k=63 then some (.io ioc_once) else if k=83 then some (.io ioc_delfunc) else if k=86 then some (.io (ioc_search 5)) else none
theorem Psi_k42_ok:PsiOk Tryz.prog U_k42 Psi_k42:=by
 intro k c h
 unfold Psi_k42 at h
 split at h
 ·cases h;subst_vars;exact ⟨spec_k26,fun _ _=>M.det_det⟩
 split at h
 ·cases h;subst_vars;exact io_once
 split at h
 ·cases h;subst_vars;exact io_delfunc
 split at h
 ·cases h;subst_vars;exact io_search 5
 cases h
def ann_k42:Ann:=(.seq .leaf (.seq (.seq .leaf (.seq .leaf (.cond (.seq .leaf .leaf) .leaf))) (.seq .leaf (.seq .leaf (.seq .leaf (.join ⟨[(7,.loc 15 0)],[(15,.cells t79 [.val t22,.val t23,.val t24,.val t22,.val t3,.val t3,.val t3,.val t3,.val t3,.val t3,.val t3,.sub 50200,.own 30000]),(50200,.arr t39),(30000,.arr t80)]⟩ (.seq .leaf (.cond (.seq .leaf .leaf) .leaf)) (.seq .leaf (.seq (.seq .leaf (.cond (.seq .leaf .leaf) .leaf)) (.seq .leaf .leaf)))))))))
theorem l_k42 (x):funI U_k42 (tabT tab) noPhi Psi_k42 Tryz.f42 b_k42 ann_k42 (.prod t28 t75) (.prod t71 t34) x=S_hire_read fcCheck.sh shOnceIO shDel (shSearchF 5) fcVoid.sh x:=by kernel_rfl
theorem spec_k42:FnSpec Tryz.prog 42 (.prod t28 t75) (.prod t71 t34) fcRead.sh:=
 fn_ok mixOk tabOk U_k42_ok noPhi_ok Psi_k42_ok Tryz.func42 b_k42_ok (by kernel_rfl) fun x=>M.le_trans (M.le_of_eq (l_k42 x)) (sRead x)
def b_k45:Code:=Tryz.f45.body.getD .skip
theorem b_k45_ok:Tryz.f45.body=some b_k45:=by kernel_rfl
def Psi_k45 (k:Nat):Option KC:=if k=44 then some (.sc ⟨(.prod t3 (.prod t3 t3)),t4,fcWithin.sh,true⟩) else none
theorem Psi_k45_ok:PsiOk Tryz.prog noU Psi_k45:=by
 intro k c h
 unfold Psi_k45 at h
 split at h
 ·cases h;subst_vars;exact ⟨spec_k44,fun _ _=>M.det_det⟩
 cases h
def ann_k45:Ann:=(.seq .leaf (.seq .leaf .leaf))
theorem l_k45 (x):funI noU (tabT tab) noPhi Psi_k45 Tryz.f45 b_k45 ann_k45 t3 t4 x=S_hire_isMinute fcWithin.sh x:=by kernel_rfl
theorem spec_k45:FnSpec Tryz.prog 45 t3 t4 fcMinute.sh:=
 fn_ok mixOk tabOk noU_ok noPhi_ok Psi_k45_ok Tryz.func45 b_k45_ok (by kernel_rfl) fun x=>M.le_trans (M.le_of_eq (l_k45 x)) (sHMinute x)
def b_k43:Code:=Tryz.f43.body.getD .skip
theorem b_k43_ok:Tryz.f43.body=some b_k43:=by kernel_rfl
def Psi_k43 (k:Nat):Option KC:=if k=44 then some (.sc ⟨(.prod t3 (.prod t3 t3)),t4,fcWithin.sh,true⟩) else if k=45 then some (.sc ⟨t3,t4,fcMinute.sh,true⟩) else none
theorem Psi_k43_ok:PsiOk Tryz.prog noU Psi_k43:=by
 intro k c h
 unfold Psi_k43 at h
 split at h
 ·cases h;subst_vars;exact ⟨spec_k44,fun _ _=>M.det_det⟩
 split at h
 ·cases h;subst_vars;exact ⟨spec_k45,fun _ _=>M.det_det⟩
 cases h
def ann_k43:Ann:=(.seq .leaf (.seq .leaf .leaf))
theorem l_k43 (x):codeI noU (tabT tab) noPhi Psi_k43 ann_k43 b_k43 (capsSt 1 (parSt (.prod t71 (.prod (.ptr t3) (.ptr t3))) x)) (retI (tabT tab) Tryz.f43.results.toList t4)=S_hire_Where_c1 fcWithin.sh fcMinute.sh x:=by kernel_rfl
theorem spec_k43:FnSpec Tryz.prog 43 (.prod t71 (.prod (.ptr t3) (.ptr t3))) t4 fcWhere1.sh:=
 fnC_ok (n:=1) mixOk tabOk noU_ok noPhi_ok Psi_k43_ok Tryz.func43 b_k43_ok (by kernel_rfl) fun x=>M.le_req (fun h=>by obtain ⟨a,b,hf⟩:=h;exact caps_pre ⟨⟨trivial,isSome_of (congrArg (fun o=>o.1) hf)⟩,isSome_of (congrArg (fun o=>o.2) hf)⟩) (M.le_trans (M.le_of_eq (l_k43 x)) (sWhere1 x))
def b_k46:Code:=Tryz.f46.body.getD .skip
theorem b_k46_ok:Tryz.f46.body=some b_k46:=by kernel_rfl
def Psi_k46 (k:Nat):Option KC:=none
theorem Psi_k46_ok:PsiOk Tryz.prog noU Psi_k46:=by
 intro k c h
 unfold Psi_k46 at h
 cases h
def ann_k46:Ann:=(.seq .leaf (.seq .leaf (.seq .leaf (.join ⟨[(6,.loc 6 0),(8,.loc 8 0),(9,.val t4)],[(6,.whole t82),(8,.whole t82)]⟩ (.seq .leaf (.block (.loop ⟨[(2,.val t3),(6,.loc 6 0),(8,.loc 8 0),(9,.val t4),(17,.val t93),(18,.val t3),(19,.val t3)],[(6,.whole t82),(8,.whole t82)]⟩ (.seq .leaf (.seq (.cond .leaf .leaf) (.join ⟨[(2,.val t3),(6,.loc 6 0),(8,.loc 8 0),(9,.val t4),(17,.val t93),(18,.val t3),(19,.val t3)],[(6,.whole t82),(8,.whole t82)]⟩ (.block (.seq .leaf (.seq .leaf (.cond .leaf .leaf)))) .leaf)))))) (.seq .leaf .leaf)))))
theorem l_k46 (x):funI noU (tabT tab) noPhi Psi_k46 Tryz.f46 b_k46 ann_k46 (.prod t80 (.prod t3 t3)) (.prod t82 t4) x=S_hire_truth_with  x:=by kernel_rfl
theorem spec_k46:FnSpec Tryz.prog 46 (.prod t80 (.prod t3 t3)) (.prod t82 t4) fcTWith.sh:=
 fn_ok mixOk tabOk noU_ok noPhi_ok Psi_k46_ok Tryz.func46 b_k46_ok (by kernel_rfl) fun x=>M.le_trans (M.le_of_eq (l_k46 x)) (sTWith x)
def b_kkeysI:Code:=Tryz.f88.body.getD .skip
theorem b_kkeysI_ok:Tryz.f88.body=some b_kkeysI:=by kernel_rfl
def Psi_kkeysI (k:Nat):Option KC:=none
theorem Psi_kkeysI_ok:PsiOk Tryz.prog noU Psi_kkeysI:=by
 intro k c h
 unfold Psi_kkeysI at h
 cases h
def ioc_keysI:IOC:=⟨⟨[(0,.yld),(1,.pp t76),(1000000,.tr t3)],[]⟩,⟨[(1000000,.tr t3)],[]⟩,[],2,S_maps_KeysI⟩
def ann_kkeysI:Ann:=(.seq .leaf (.block (.loop ⟨[(0,.yld),(5,.iter 5),(1000000,.tr t3)],[(5,.it t3 t3)]⟩ (.seq .leaf (.seq (.cond .leaf .leaf) (.block (.seq .leaf (.seq .leaf (.cond .leaf .leaf)))))))))
theorem l_kkeysI (x):funIO noU (tabT tab) noPhi Psi_kkeysI Tryz.f88 b_kkeysI ann_kkeysI ⟨[(0,.yld),(1,.pp t76),(1000000,.tr t3)],[]⟩ ⟨[(1000000,.tr t3)],[]⟩ [] x=S_maps_KeysI  x:=by kernel_rfl
theorem io_keysI:IoSpec Tryz.prog noU 88 ioc_keysI:=
 fnIO_ok mixOk tabOk noPhi_ok Psi_kkeysI_ok Tryz.func88 b_kkeysI_ok (by kernel_rfl) fun x=>M.le_trans (M.le_of_eq (l_kkeysI x)) (M.le_refl <| S_maps_KeysI x)
theorem cit_88:CItSpec Tryz.prog 88 ⟨[t76],t3,keysS⟩:=cit_of_io (c:=ioc_keysI) io_keysI noU_ok (fun x l L=>(l,x.getD [],(l,L,[],false),())) rfl (by decide) (by simp [tupT])
 (fun x l L i hx=>by
  obtain ⟨T,hT⟩:=hx
  obtain ⟨m,hm,_⟩:=hT
  subst hm
  by_cases h0:i=0
  ·subst h0;exact .inr (.inr (.inl ⟨rfl,rfl⟩))
  ·by_cases h1:i=1
   ·subst h1;exact .inr (.inl ⟨by decide,by decide,_,_,rfl,rfl⟩)
   by_cases h2:i=TRS
   ·subst h2;exact .inr (.inr (.inr ⟨rfl,rfl⟩))
   ·refine .inl ?_
    exact (if_neg h0).trans ((if_neg h1).trans (if_neg h2)))
 rfl (fun τ=>⟨_,_,_,_,rfl⟩) (fun x l hx=>by
  obtain ⟨T,hT⟩:=hx
  obtain ⟨m,hm,_⟩:=hT
  subst hm
  have h:=sKeysIOI l m
  refine ⟨h.1,fun τ hτ l' L' p hsl=>?_⟩
  have e:AV.tr τ.1.1 t3 τ.1.2.1 τ.1.2.2.1 τ.1.2.2.2=.tr l' t3 L' p false:=hsl
  injection e with e1 e2 e3 e4 e5
  rw [←e4]
  exact h.2 τ hτ e5)
def b_k48:Code:=Tryz.f48.body.getD .skip
theorem b_k48_ok:Tryz.f48.body=some b_k48:=by kernel_rfl
def U_k48:FnTab:={ fnv:=fun k=>none,clv:=fun k=>none,itv:=fun k=>if k=88 then some ⟨[t76],t3,keysS⟩ else none }
theorem U_k48_ok:FnTabOk Tryz.prog U_k48 where
 fnv:=by
  intro k v h
  simp only [U_k48] at h
  cases h
 clv:=by
  intro k v h
  simp only [U_k48] at h
  cases h
 itv:=by
  intro k v h
  simp only [U_k48] at h
  split at h
  ·cases h;subst_vars;exact cit_88
  cases h
def Psi_k48 (k:Nat):Option KC:=none
theorem Psi_k48_ok:PsiOk Tryz.prog U_k48 Psi_k48:=by
 intro k c h
 unfold Psi_k48 at h
 cases h
def ann_k48:Ann:=(.seq .leaf (.seq .leaf .leaf))
theorem l_k48 (x):funI U_k48 (tabT tab) noPhi Psi_k48 Tryz.f48 b_k48 ann_k48 t76 t87 x=S_maps_Keys_map_int_int_int_int keysS x:=by kernel_rfl
theorem spec_k48:FnSpec Tryz.prog 48 t76 t87 fcKeysI.sh:=
 fn_ok mixOk tabOk U_k48_ok noPhi_ok Psi_k48_ok Tryz.func48 b_k48_ok (by kernel_rfl) fun x=>M.le_trans (M.le_of_eq (l_k48 x)) (sKeysI x)
def b_k14:Code:=Tryz.f14.body.getD .skip
theorem b_k14_ok:Tryz.f14.body=some b_k14:=by kernel_rfl
def U_k14:FnTab:={ fnv:=fun k=>none,clv:=fun k=>if k=43 then some ⟨[t71],[t3,t3],t4,fcWhere1.sh⟩ else none }
theorem U_k14_ok:FnTabOk Tryz.prog U_k14 where
 fnv:=by
  intro k v h
  simp only [U_k14] at h
  cases h
 clv:=by
  intro k v h
  simp only [U_k14] at h
  split at h
  ·cases h;subst_vars;exact ⟨rfl,spec_k43⟩
  cases h
def Psi_k14 (k:Nat):Option KC:=if k=42 then some (.sc ⟨(.prod t28 t75),(.prod t71 t34),fcRead.sh,true⟩) else if k=46 then some (.sc ⟨(.prod t80 (.prod t3 t3)),(.prod t82 t4),fcTWith.sh,true⟩) else if k=47 then some (.sc ⟨t87,t24,fcSorted.sh,true⟩) else if k=48 then some (.sc ⟨t76,t87,fcKeysI.sh,true⟩) else none
theorem Psi_k14_ok:PsiOk Tryz.prog U_k14 Psi_k14:=by
 intro k c h
 unfold Psi_k14 at h
 split at h
 ·cases h;subst_vars;exact ⟨spec_k42,fun _ _=>M.det_det⟩
 split at h
 ·cases h;subst_vars;exact ⟨spec_k46,fun _ _=>M.det_det⟩
 split at h
 ·cases h;subst_vars;exact ⟨spec_k47,fun _ _=>M.det_det⟩
 split at h
 ·cases h;subst_vars;exact ⟨spec_k48,fun _ _=>M.det_det⟩
 cases h
def ann_k14:Ann:=(.seq .leaf (.seq .leaf (.seq (.seq .leaf (.cond (.seq .leaf .leaf) .leaf)) (.seq .leaf (.join ⟨[(10,.mapl 24)],[(24,.mp t3 t3)]⟩ (.seq .leaf (.block (.loop ⟨[(4,.loc 4 0),(5,.loc 5 0),(10,.mapl 24),(28,.val t77),(29,.val t3),(30,.val t3)],[(4,.frzc t3),(5,.frzc t3),(24,.mp t3 t3)]⟩ (.seq .leaf (.seq (.cond .leaf .leaf) (.join ⟨[(4,.loc 4 0),(5,.loc 5 0),(10,.mapl 24),(28,.val t77),(29,.val t3),(30,.val t3)],[(4,.frzc t3),(5,.frzc t3),(24,.mp t3 t3)]⟩ (.block (.seq .leaf (.seq .leaf (.seq .leaf (.cond .leaf .leaf))))) .leaf)))))) (.seq .leaf .leaf))))))
theorem l_k14 (x):funI U_k14 (tabT tab) noPhi Psi_k14 Tryz.f14 b_k14 ann_k14 (.prod t28 (.prod t3 t3)) (.prod t24 t34) x=S_hire_Where fcRead.sh fcTWith.sh fcSorted.sh fcKeysI.sh fcWhere1.sh x:=by kernel_rfl
theorem spec_k14:FnSpec Tryz.prog 14 (.prod t28 (.prod t3 t3)) (.prod t24 t34) fcWhere.sh:=
 fn_ok mixOk tabOk U_k14_ok noPhi_ok Psi_k14_ok Tryz.func14 b_k14_ok (by kernel_rfl) fun x=>M.le_trans (M.le_of_eq (l_k14 x)) (sHWhere x)
def b_k54:Code:=Tryz.f54.body.getD .skip
theorem b_k54_ok:Tryz.f54.body=some b_k54:=by kernel_rfl
def Psi_k54 (k:Nat):Option KC:=none
theorem Psi_k54_ok:PsiOk Tryz.prog noU Psi_k54:=by
 intro k c h
 unfold Psi_k54 at h
 cases h
def ann_k54:Ann:=(.seq .leaf (.join ⟨[(4,.loc 4 0),(5,.val t4)],[(4,.whole t42)]⟩ (.seq .leaf (.block (.loop ⟨[(1,.val t95),(4,.loc 4 0),(5,.val t4),(13,.val t77),(14,.val t3),(15,.val t3)],[(4,.whole t42)]⟩ (.seq .leaf (.seq (.cond .leaf .leaf) (.join ⟨[(1,.val t95),(4,.loc 4 0),(5,.val t4),(13,.val t77),(14,.val t3),(15,.val t3)],[(4,.whole t42)]⟩ (.block (.seq .leaf (.seq .leaf (.block (.seq .leaf (.cond .leaf (.seq .leaf (.cond .leaf .leaf)))))))) .leaf)))))) (.seq .leaf .leaf)))
theorem l_k54 (x):funI noU (tabT tab) noPhi Psi_k54 Tryz.f54 b_k54 ann_k54 (.prod t71 t95) (.prod t42 t4) x=S_hire_book_span  x:=by kernel_rfl
theorem spec_k54:FnSpec Tryz.prog 54 (.prod t71 t95) (.prod t42 t4) fcSpan.sh:=
 fn_ok mixOk tabOk noU_ok noPhi_ok Psi_k54_ok Tryz.func54 b_k54_ok (by kernel_rfl) fun x=>M.le_trans (M.le_of_eq (l_k54 x)) (sSpan x)
def b_k91:Code:=Tryz.f91.body.getD .skip
theorem b_k91_ok:Tryz.f91.body=some b_k91:=by kernel_rfl
def Psi_k91 (k:Nat):Option KC:=none
theorem Psi_k91_ok:PsiOk Tryz.prog noU Psi_k91:=by
 intro k c h
 unfold Psi_k91 at h
 cases h
def ann_k91:Ann:=(.seq .leaf (.seq .leaf .leaf))
theorem l_k91 (x):codeI noU (tabT tab) noPhi Psi_k91 ann_k91 b_k91 (capsSt 1 (parSt (.prod t39 (.ptr t3)) x)) (retI (tabT tab) Tryz.f91.results.toList t4)=S_hire_lasts_c1_c1  x:=by kernel_rfl
theorem spec_k91:FnSpec Tryz.prog 91 (.prod t39 (.ptr t3)) t4 fcIsLent.sh:=
 fnC_ok (n:=1) mixOk tabOk noU_ok noPhi_ok Psi_k91_ok Tryz.func91 b_k91_ok (by kernel_rfl) fun x=>M.le_req (fun h=>by obtain ⟨f,hf,_⟩:=h;exact caps_pre ⟨trivial,isSome_of hf⟩) (M.le_trans (M.le_of_eq (l_k91 x)) (sIsLent x))
def b_k89:Code:=Tryz.f89.body.getD .skip
theorem b_k89_ok:Tryz.f89.body=some b_k89:=by kernel_rfl
def U_k89:FnTab:={ fnv:=fun k=>none,clv:=fun k=>if k=91 then some ⟨[t39],[t3],t4,fcIsLent.sh⟩ else none }
theorem U_k89_ok:FnTabOk Tryz.prog U_k89 where
 fnv:=by
  intro k v h
  simp only [U_k89] at h
  cases h
 clv:=by
  intro k v h
  simp only [U_k89] at h
  split at h
  ·cases h;subst_vars;exact ⟨rfl,spec_k91⟩
  cases h
def Psi_k89 (k:Nat):Option KC:=if k=90 then some (.sc ⟨(.prod t23 t119),t4,(fcContainsFunc tSlip).sh,true⟩) else none
theorem Psi_k89_ok:PsiOk Tryz.prog U_k89 Psi_k89:=by
 intro k c h
 unfold Psi_k89 at h
 split at h
 ·cases h;subst_vars;exact ⟨spec_k90,fun _ _=>M.det_det⟩
 cases h
def ann_k89:Ann:=(.seq .leaf (.seq .leaf .leaf))
theorem l_k89 (x):codeI U_k89 (tabT tab) noPhi Psi_k89 ann_k89 b_k89 (capsSt 1 (parSt (.prod t71 (.ptr t3)) x)) (retI (tabT tab) Tryz.f89.results.toList t4)=S_hire_lasts_c1 (fcContainsFunc tSlip).sh fcIsLent.sh x:=by kernel_rfl
theorem spec_k89:FnSpec Tryz.prog 89 (.prod t71 (.ptr t3)) t4 fcHasLent.sh:=
 fnC_ok (n:=1) mixOk tabOk U_k89_ok noPhi_ok Psi_k89_ok Tryz.func89 b_k89_ok (by kernel_rfl) fun x=>M.le_req (fun h=>by obtain ⟨_,f,hf,_⟩:=h;exact caps_pre ⟨trivial,isSome_of hf⟩) (M.le_trans (M.le_of_eq (l_k89 x)) (sHasLent x))
def b_k76:Code:=Tryz.f76.body.getD .skip
theorem b_k76_ok:Tryz.f76.body=some b_k76:=by kernel_rfl
def Psi_k76 (k:Nat):Option KC:=none
theorem Psi_k76_ok:PsiOk Tryz.prog noU Psi_k76:=by
 intro k c h
 unfold Psi_k76 at h
 cases h
def ann_k76:Ann:=(.seq .leaf (.seq .leaf (.join ⟨[(7,.val t3)],[]⟩ (.seq .leaf (.block (.loop ⟨[(1,.val t3),(2,.val t3),(7,.val t3),(14,.val t22),(15,.val t3),(16,.val t3)],[]⟩ (.seq .leaf (.seq (.cond .leaf .leaf) (.seq (.block (.seq .leaf .leaf)) .leaf)))))) (.seq .leaf .leaf))))
theorem l_k76 (x):funI noU (tabT tab) noPhi Psi_k76 Tryz.f76 b_k76 ann_k76 (.prod t28 (.prod t3 t3)) t3 x=S_hire_open  x:=by kernel_rfl
theorem spec_k76:FnSpec Tryz.prog 76 (.prod t28 (.prod t3 t3)) t3 fcMinutes.sh:=
 fn_ok mixOk tabOk noU_ok noPhi_ok Psi_k76_ok Tryz.func76 b_k76_ok (by kernel_rfl) fun x=>M.le_trans (M.le_of_eq (l_k76 x)) (sHOpen x)
def b_khires:Code:=Tryz.f94.body.getD .skip
theorem b_khires_ok:Tryz.f94.body=some b_khires:=by kernel_rfl
def Psi_khires (k:Nat):Option KC:=if k=76 then some (.sc ⟨(.prod t28 (.prod t3 t3)),t3,fcMinutes.sh,true⟩) else none
theorem Psi_khires_ok:PsiOk Tryz.prog noU Psi_khires:=by
 intro k c h
 unfold Psi_khires at h
 split at h
 ·cases h;subst_vars;exact ⟨spec_k76,fun _ _=>M.det_det⟩
 cases h
def ioc_hires:IOC:=⟨⟨[(0,.yld),(1,.pp t80),(2,.pp t71),(1000000,.tr (.prod t39 t3))],[]⟩,⟨[(1000000,.tr (.prod t39 t3))],[]⟩,[],3,(S_hire_hires_c1 fcMinutes.sh)⟩
def ann_khires:Ann:=(.seq .leaf (.block (.loop ⟨[(0,.yld),(2,.pp t71),(10,.val t94),(11,.val t3),(1000000,.tr (.prod t39 t3))],[]⟩ (.seq .leaf (.seq (.cond .leaf .leaf) (.join ⟨[(0,.yld),(2,.pp t71),(10,.val t94),(11,.val t3),(1000000,.tr (.prod t39 t3))],[]⟩ (.block (.seq .leaf (.seq .leaf (.block (.loop ⟨[(0,.yld),(2,.pp t71),(5,.val t93),(6,.val t3),(10,.val t94),(11,.val t3),(1000000,.tr (.prod t39 t3))],[]⟩ (.seq (.seq .leaf (.cond .leaf .leaf)) (.seq (.block (.seq .leaf (.cond .leaf .leaf))) .leaf))))))) .leaf))))))
theorem l_khires (x):funIO noU (tabT tab) noPhi Psi_khires Tryz.f94 b_khires ann_khires ⟨[(0,.yld),(1,.pp t80),(2,.pp t71),(1000000,.tr (.prod t39 t3))],[]⟩ ⟨[(1000000,.tr (.prod t39 t3))],[]⟩ [] x=S_hire_hires_c1 fcMinutes.sh x:=by kernel_rfl
theorem io_hires:IoSpec Tryz.prog noU 94 ioc_hires:=
 fnIO_ok mixOk tabOk noPhi_ok Psi_khires_ok Tryz.func94 b_khires_ok (by kernel_rfl) fun x=>M.le_trans (M.le_of_eq (l_khires x)) (M.le_refl <| S_hire_hires_c1 fcMinutes.sh x)
theorem cit_94:CItSpec Tryz.prog 94 ⟨[t80,t71],(.prod t39 t3),hiresS⟩:=cit_of_io (c:=ioc_hires) io_hires noU_ok (fun x l L=>(l,x.1.getD none,x.2.getD none,(l,L,[],false),())) rfl (by decide) (by simp [tupT])
 (fun x l L i hx=>by
  obtain ⟨T,hT⟩:=hx
  obtain ⟨t,b,h1,h2,hp,_⟩:=hT
  obtain ⟨x1,x2⟩:=x
  change x1=some (some t) at h1
  change x2=some (some b) at h2
  subst h1;subst h2
  by_cases h0:i=0
  ·subst h0;exact .inr (.inr (.inl ⟨rfl,rfl⟩))
  ·by_cases h1:i=1
   ·subst h1;exact .inr (.inl ⟨by decide,by decide,_,_,rfl,rfl⟩)
   by_cases h3:i=2
   ·subst h3;exact .inr (.inl ⟨by decide,by decide,_,_,rfl,rfl⟩)
   by_cases h2:i=TRS
   ·subst h2;exact .inr (.inr (.inr ⟨rfl,rfl⟩))
   ·refine .inl ?_
    exact (if_neg h0).trans ((if_neg h1).trans ((if_neg h3).trans (if_neg h2))))
 rfl (fun τ=>⟨_,_,_,_,rfl⟩) (fun x l hx=>by
  obtain ⟨T,hT⟩:=hx
  obtain ⟨t,b,h1,h2,hp,_⟩:=hT
  obtain ⟨x1,x2⟩:=x
  change x1=some (some t) at h1
  change x2=some (some b) at h2
  subst h1;subst h2
  have h:=sHiresIO l t b hp
  refine ⟨h.1,fun τ hτ l' L' p hsl=>?_⟩
  have e:AV.tr τ.1.1 (.prod t39 t3) τ.1.2.1 τ.1.2.2.1 τ.1.2.2.2=.tr l' (.prod t39 t3) L' p false:=hsl
  injection e with e1 e2 e3 e4 e5
  rw [←e4]
  exact h.2 τ hτ e5)
def b_k61:Code:=Tryz.f61.body.getD .skip
theorem b_k61_ok:Tryz.f61.body=some b_k61:=by kernel_rfl
def U_k61:FnTab:={ fnv:=fun k=>none,clv:=fun k=>none,itv:=fun k=>if k=94 then some ⟨[t80,t71],(.prod t39 t3),hiresS⟩ else none }
theorem U_k61_ok:FnTabOk Tryz.prog U_k61 where
 fnv:=by
  intro k v h
  simp only [U_k61] at h
  cases h
 clv:=by
  intro k v h
  simp only [U_k61] at h
  cases h
 itv:=by
  intro k v h
  simp only [U_k61] at h
  split at h
  ·cases h;subst_vars;exact cit_94
  cases h
def Psi_k61 (k:Nat):Option KC:=none
theorem Psi_k61_ok:PsiOk Tryz.prog U_k61 Psi_k61:=by
 intro k c h
 unfold Psi_k61 at h
 cases h
def ann_k61:Ann:=(.seq .leaf (.seq .leaf .leaf))
theorem l_k61 (x):funI U_k61 (tabT tab) noPhi Psi_k61 Tryz.f61 b_k61 ann_k61 (.prod t71 t80) t97 x=S_hire_book_hires hiresS x:=by kernel_rfl
theorem spec_k61:FnSpec Tryz.prog 61 (.prod t71 t80) t97 fcBookHires.sh:=
 fn_ok mixOk tabOk U_k61_ok noPhi_ok Psi_k61_ok Tryz.func61 b_k61_ok (by kernel_rfl) fun x=>M.le_trans (M.le_of_eq (l_k61 x)) (sBookHires x)
def b_k92:Code:=Tryz.f92.body.getD .skip
theorem b_k92_ok:Tryz.f92.body=some b_k92:=by kernel_rfl
def Psi_k92 (k:Nat):Option KC:=if k=61 then some (.sc ⟨(.prod t71 t80),t97,fcBookHires.sh,true⟩) else none
theorem Psi_k92_ok:PsiOk Tryz.prog noU Psi_k92:=by
 intro k c h
 unfold Psi_k92 at h
 split at h
 ·cases h;subst_vars;exact ⟨spec_k61,fun _ _=>M.det_det⟩
 cases h
def ann_k92:Ann:=(.seq .leaf (.seq (.seq .leaf (.block (.range ⟨[(2,.pp t3),(3,.pp t90),(5,.loc 5 0),(6,.loc 6 0)],[(5,.cells t3 [.val t3]),(6,.cells t4 [.val t4])]⟩ ⟨[(2,.pp t3),(3,.pp t90),(5,.loc 100005 0),(6,.loc 100006 0),(12,.val t39),(13,.val t3)],[(100005,.cells t3 [.val t3]),(100006,.cells t4 [.val t4])]⟩ ⟨[],[(100005,.cells t3 [.val t3]),(100006,.cells t4 [.val t4])]⟩ (.seq .leaf .leaf) (.block (.seq .leaf (.cond (.seq .leaf .leaf) .leaf)))))) (.seq .leaf .leaf)))
theorem l_k92 (x):codeI noU (tabT tab) noPhi Psi_k92 ann_k92 b_k92 (capsSt 1 (parSt (.prod t80 (.prod (.ptr t71) (.prod (.ptr t3) (.ptr t90)))) x)) (retI (tabT tab) Tryz.f92.results.toList (.prod t3 t4))=S_hire_lasts_c2 fcBookHires.sh x:=by kernel_rfl
theorem spec_k92:FnSpec Tryz.prog 92 (.prod t80 (.prod (.ptr t71) (.prod (.ptr t3) (.ptr t90)))) (.prod t3 t4) fcLast2.sh:=
 fnC_ok (n:=1) mixOk tabOk noU_ok noPhi_ok Psi_k92_ok Tryz.func92 b_k92_ok (by kernel_rfl) fun x=>M.le_req (fun h=>by obtain ⟨_,_,_,_,rfl,_⟩:=h;exact caps_pre ⟨⟨⟨trivial,rfl⟩,rfl⟩,rfl⟩) (M.le_trans (M.le_of_eq (l_k92 x)) (sLast2 x))
def b_k49:Code:=Tryz.f49.body.getD .skip
theorem b_k49_ok:Tryz.f49.body=some b_k49:=by kernel_rfl
def U_k49:FnTab:={ fnv:=fun k=>none,clv:=fun k=>if k=89 then some ⟨[t71],[t3],t4,fcHasLent.sh⟩ else if k=92 then some ⟨[t80],[t71,t3,t90],(.prod t3 t4),fcLast2.sh⟩ else none }
theorem U_k49_ok:FnTabOk Tryz.prog U_k49 where
 fnv:=by
  intro k v h
  simp only [U_k49] at h
  cases h
 clv:=by
  intro k v h
  simp only [U_k49] at h
  split at h
  ·cases h;subst_vars;exact ⟨rfl,spec_k89⟩
  split at h
  ·cases h;subst_vars;exact ⟨rfl,spec_k92⟩
  cases h
def Psi_k49 (k:Nat):Option KC:=if k=42 then some (.sc ⟨(.prod t28 t75),(.prod t71 t34),fcRead.sh,true⟩) else if k=54 then some (.sc ⟨(.prod t71 t95),(.prod t42 t4),fcSpan.sh,true⟩) else none
theorem Psi_k49_ok:PsiOk Tryz.prog U_k49 Psi_k49:=by
 intro k c h
 unfold Psi_k49 at h
 split at h
 ·cases h;subst_vars;exact ⟨spec_k42,fun _ _=>M.det_det⟩
 split at h
 ·cases h;subst_vars;exact ⟨spec_k54,fun _ _=>M.det_det⟩
 cases h
def ann_k49:Ann:=(.seq .leaf (.seq .leaf (.seq (.seq .leaf (.cond (.seq .leaf .leaf) .leaf)) (.seq .leaf (.seq (.seq .leaf (.cond (.seq .leaf .leaf) .leaf)) (.seq .leaf .leaf))))))
theorem l_k49 (x):funI U_k49 (tabT tab) noPhi Psi_k49 Tryz.f49 b_k49 ann_k49 (.prod t28 (.prod t3 t90)) (.prod t42 t34) x=S_hire_lasts fcRead.sh fcSpan.sh fcHasLent.sh fcLast2.sh x:=by kernel_rfl
theorem spec_k49:FnSpec Tryz.prog 49 (.prod t28 (.prod t3 t90)) (.prod t42 t34) fcLastsF.sh:=
 fn_ok mixOk tabOk U_k49_ok noPhi_ok Psi_k49_ok Tryz.func49 b_k49_ok (by kernel_rfl) fun x=>M.le_trans (M.le_of_eq (l_k49 x)) (sLastsF x)
def b_k51:Code:=Tryz.f51.body.getD .skip
theorem b_k51_ok:Tryz.f51.body=some b_k51:=by kernel_rfl
def Psi_k51 (k:Nat):Option KC:=none
theorem Psi_k51_ok:PsiOk Tryz.prog noU Psi_k51:=by
 intro k c h
 unfold Psi_k51 at h
 cases h
def ann_k51:Ann:=(.seq .leaf (.seq (.seq .leaf (.cond (.seq .leaf .leaf) .leaf)) (.seq .leaf .leaf)))
theorem l_k51 (x):funI noU (tabT tab) noPhi Psi_k51 Tryz.f51 b_k51 ann_k51 (.prod t26 t3) t3 x=S_hire_fee  x:=by kernel_rfl
theorem spec_k51:FnSpec Tryz.prog 51 (.prod t26 t3) t3 fcPrice.sh:=
 fn_ok mixOk tabOk noU_ok noPhi_ok Psi_k51_ok Tryz.func51 b_k51_ok (by kernel_rfl) fun x=>M.le_trans (M.le_of_eq (l_k51 x)) (sHFee x)
def b_k50:Code:=Tryz.f50.body.getD .skip
theorem b_k50_ok:Tryz.f50.body=some b_k50:=by kernel_rfl
def Psi_k50 (k:Nat):Option KC:=if k=51 then some (.sc ⟨(.prod t26 t3),t3,fcPrice.sh,true⟩) else none
theorem Psi_k50_ok:PsiOk Tryz.prog noU Psi_k50:=by
 intro k c h
 unfold Psi_k50 at h
 split at h
 ·cases h;subst_vars;exact ⟨spec_k51,fun _ _=>M.det_det⟩
 cases h
def ann_k50:Ann:=(.seq .leaf (.seq .leaf .leaf))
theorem l_k50 (x):codeI noU (tabT tab) noPhi Psi_k50 ann_k50 b_k50 (capsSt 1 (parSt (.prod t3 (.ptr t28)) x)) (retI (tabT tab) Tryz.f50.results.toList t3)=S_hire_Fee_c1 fcPrice.sh x:=by kernel_rfl
theorem spec_k50:FnSpec Tryz.prog 50 (.prod t3 (.ptr t28)) t3 fcFee1.sh:=
 fnC_ok (n:=1) mixOk tabOk noU_ok noPhi_ok Psi_k50_ok Tryz.func50 b_k50_ok (by kernel_rfl) fun x=>M.le_req (fun h=>by obtain ⟨f,hf,_⟩:=h;exact caps_pre ⟨trivial,isSome_of hf⟩) (M.le_trans (M.le_of_eq (l_k50 x)) (sFee1 x))
def b_k18:Code:=Tryz.f18.body.getD .skip
theorem b_k18_ok:Tryz.f18.body=some b_k18:=by kernel_rfl
def U_k18:FnTab:={ fnv:=fun k=>none,clv:=fun k=>if k=50 then some ⟨[t3],[t28],t3,fcFee1.sh⟩ else none }
theorem U_k18_ok:FnTabOk Tryz.prog U_k18 where
 fnv:=by
  intro k v h
  simp only [U_k18] at h
  cases h
 clv:=by
  intro k v h
  simp only [U_k18] at h
  split at h
  ·cases h;subst_vars;exact ⟨rfl,spec_k50⟩
  cases h
def Psi_k18 (k:Nat):Option KC:=if k=49 then some (.sc ⟨(.prod t28 (.prod t3 t90)),(.prod t42 t34),fcLastsF.sh,true⟩) else none
theorem Psi_k18_ok:PsiOk Tryz.prog U_k18 Psi_k18:=by
 intro k c h
 unfold Psi_k18 at h
 split at h
 ·cases h;subst_vars;exact ⟨spec_k49,fun _ _=>M.det_det⟩
 cases h
def ann_k18:Ann:=(.seq .leaf (.seq .leaf .leaf))
theorem l_k18 (x):funI U_k18 (tabT tab) noPhi Psi_k18 Tryz.f18 b_k18 ann_k18 (.prod t28 t3) (.prod t42 t34) x=S_hire_Fee fcLastsF.sh fcFee1.sh x:=by kernel_rfl
theorem spec_k18:FnSpec Tryz.prog 18 (.prod t28 t3) (.prod t42 t34) fcFee.sh:=
 fn_ok mixOk tabOk U_k18_ok noPhi_ok Psi_k18_ok Tryz.func18 b_k18_ok (by kernel_rfl) fun x=>M.le_trans (M.le_of_eq (l_k18 x)) (sHFeeF x)
def b_k53:Code:=Tryz.f53.body.getD .skip
theorem b_k53_ok:Tryz.f53.body=some b_k53:=by kernel_rfl
def Psi_k53 (k:Nat):Option KC:=if k=45 then some (.sc ⟨t3,t4,fcMinute.sh,true⟩) else none
theorem Psi_k53_ok:PsiOk Tryz.prog noU Psi_k53:=by
 intro k c h
 unfold Psi_k53 at h
 split at h
 ·cases h;subst_vars;exact ⟨spec_k45,fun _ _=>M.det_det⟩
 cases h
def ann_k53:Ann:=(.seq .leaf (.seq .leaf .leaf))
theorem l_k53 (x):codeI noU (tabT tab) noPhi Psi_k53 ann_k53 b_k53 (capsSt 1 (parSt (.prod t71 (.ptr t3)) x)) (retI (tabT tab) Tryz.f53.results.toList t4)=S_hire_Held_c1 fcMinute.sh x:=by kernel_rfl
theorem spec_k53:FnSpec Tryz.prog 53 (.prod t71 (.ptr t3)) t4 fcMinP.sh:=
 fnC_ok (n:=1) mixOk tabOk noU_ok noPhi_ok Psi_k53_ok Tryz.func53 b_k53_ok (by kernel_rfl) fun x=>M.le_req (fun h=>by obtain ⟨f,hf,_⟩:=h;exact caps_pre ⟨trivial,isSome_of hf⟩) (M.le_trans (M.le_of_eq (l_k53 x)) (sHeld1 x))
def b_k55:Code:=Tryz.f55.body.getD .skip
theorem b_k55_ok:Tryz.f55.body=some b_k55:=by kernel_rfl
def Psi_k55 (k:Nat):Option KC:=if k=46 then some (.sc ⟨(.prod t80 (.prod t3 t3)),(.prod t82 t4),fcTWith.sh,true⟩) else none
theorem Psi_k55_ok:PsiOk Tryz.prog noU Psi_k55:=by
 intro k c h
 unfold Psi_k55 at h
 split at h
 ·cases h;subst_vars;exact ⟨spec_k46,fun _ _=>M.det_det⟩
 cases h
def ann_k55:Ann:=(.seq .leaf (.seq .leaf (.join ⟨[(6,.val t3)],[]⟩ (.seq .leaf (.block (.loop ⟨[(0,.val t80),(1,.pp t3),(2,.pp t28),(6,.val t3),(10,.val t3)],[]⟩ (.seq .leaf (.seq (.cond .leaf .leaf) (.join ⟨[(0,.val t80),(1,.pp t3),(2,.pp t28),(6,.val t3),(10,.val t3)],[]⟩ (.block (.seq .leaf (.seq .leaf (.seq .leaf (.cond .leaf .leaf))))) .leaf)))))) (.seq .leaf .leaf))))
theorem l_k55 (x):codeI noU (tabT tab) noPhi Psi_k55 ann_k55 b_k55 (capsSt 1 (parSt (.prod t80 (.prod (.ptr t3) (.ptr t28))) x)) (retI (tabT tab) Tryz.f55.results.toList (.prod t3 t4))=S_hire_Held_c2 fcTWith.sh x:=by kernel_rfl
theorem spec_k55:FnSpec Tryz.prog 55 (.prod t80 (.prod (.ptr t3) (.ptr t28))) (.prod t3 t4) fcHeld2.sh:=
 fnC_ok (n:=1) mixOk tabOk noU_ok noPhi_ok Psi_k55_ok Tryz.func55 b_k55_ok (by kernel_rfl) fun x=>M.le_req (fun h=>by obtain ⟨_,_,_,rfl,_⟩:=h;exact caps_pre ⟨⟨trivial,rfl⟩,rfl⟩) (M.le_trans (M.le_of_eq (l_k55 x)) (sHeld2 x))
def b_k22:Code:=Tryz.f22.body.getD .skip
theorem b_k22_ok:Tryz.f22.body=some b_k22:=by kernel_rfl
def U_k22:FnTab:={ fnv:=fun k=>none,clv:=fun k=>if k=53 then some ⟨[t71],[t3],t4,fcMinP.sh⟩ else if k=55 then some ⟨[t80],[t3,t28],(.prod t3 t4),fcHeld2.sh⟩ else none }
theorem U_k22_ok:FnTabOk Tryz.prog U_k22 where
 fnv:=by
  intro k v h
  simp only [U_k22] at h
  cases h
 clv:=by
  intro k v h
  simp only [U_k22] at h
  split at h
  ·cases h;subst_vars;exact ⟨rfl,spec_k53⟩
  split at h
  ·cases h;subst_vars;exact ⟨rfl,spec_k55⟩
  cases h
def Psi_k22 (k:Nat):Option KC:=if k=42 then some (.sc ⟨(.prod t28 t75),(.prod t71 t34),fcRead.sh,true⟩) else if k=54 then some (.sc ⟨(.prod t71 t95),(.prod t42 t4),fcSpan.sh,true⟩) else none
theorem Psi_k22_ok:PsiOk Tryz.prog U_k22 Psi_k22:=by
 intro k c h
 unfold Psi_k22 at h
 split at h
 ·cases h;subst_vars;exact ⟨spec_k42,fun _ _=>M.det_det⟩
 split at h
 ·cases h;subst_vars;exact ⟨spec_k54,fun _ _=>M.det_det⟩
 cases h
def ann_k22:Ann:=(.seq .leaf (.seq .leaf (.seq (.seq .leaf (.cond (.seq .leaf .leaf) .leaf)) (.seq .leaf (.seq .leaf .leaf)))))
theorem l_k22 (x):funI U_k22 (tabT tab) noPhi Psi_k22 Tryz.f22 b_k22 ann_k22 (.prod t28 t3) (.prod t42 t34) x=S_hire_Held fcRead.sh fcSpan.sh fcMinP.sh fcHeld2.sh x:=by kernel_rfl
theorem spec_k22:FnSpec Tryz.prog 22 (.prod t28 t3) (.prod t42 t34) fcHeld.sh:=
 fn_ok mixOk tabOk U_k22_ok noPhi_ok Psi_k22_ok Tryz.func22 b_k22_ok (by kernel_rfl) fun x=>M.le_trans (M.le_of_eq (l_k22 x)) (sHHeld x)
def b_k66:Code:=Tryz.f66.body.getD .skip
theorem b_k66_ok:Tryz.f66.body=some b_k66:=by kernel_rfl
def Psi_k66 (k:Nat):Option KC:=if k=44 then some (.sc ⟨(.prod t3 (.prod t3 t3)),t4,fcWithin.sh,true⟩) else none
theorem Psi_k66_ok:PsiOk Tryz.prog noU Psi_k66:=by
 intro k c h
 unfold Psi_k66 at h
 split at h
 ·cases h;subst_vars;exact ⟨spec_k44,fun _ _=>M.det_det⟩
 cases h
def ann_k66:Ann:=(.seq .leaf (.seq .leaf .leaf))
theorem l_k66 (x):codeI noU (tabT tab) noPhi Psi_k66 ann_k66 b_k66 (capsSt 1 (parSt (.prod t71 (.prod (.ptr t3) (.ptr t28))) x)) (retI (tabT tab) Tryz.f66.results.toList t4)=S_hire_Watch_c1 fcWithin.sh x:=by kernel_rfl
theorem spec_k66:FnSpec Tryz.prog 66 (.prod t71 (.prod (.ptr t3) (.ptr t28))) t4 fcWatch1.sh:=
 fnC_ok (n:=1) mixOk tabOk noU_ok noPhi_ok Psi_k66_ok Tryz.func66 b_k66_ok (by kernel_rfl) fun x=>M.le_req (fun h=>by obtain ⟨_,_,h1,h2,_⟩:=h;exact caps_pre ⟨⟨trivial,isSome_of h1⟩,isSome_of h2⟩) (M.le_trans (M.le_of_eq (l_k66 x)) (sWatch1 x))
def b_k67:Code:=Tryz.f67.body.getD .skip
theorem b_k67_ok:Tryz.f67.body=some b_k67:=by kernel_rfl
def Psi_k67 (k:Nat):Option KC:=none
theorem Psi_k67_ok:PsiOk Tryz.prog noU Psi_k67:=by
 intro k c h
 unfold Psi_k67 at h
 cases h
def ann_k67:Ann:=(.seq .leaf (.seq .leaf .leaf))
theorem l_k67 (x):codeI noU (tabT tab) noPhi Psi_k67 ann_k67 b_k67 (capsSt 1 (parSt (.prod t80 (.ptr t3)) x)) (retI (tabT tab) Tryz.f67.results.toList (.prod t3 t4))=S_hire_Watch_c2  x:=by kernel_rfl
theorem spec_k67:FnSpec Tryz.prog 67 (.prod t80 (.ptr t3)) (.prod t3 t4) fcWatch2.sh:=
 fnC_ok (n:=1) mixOk tabOk noU_ok noPhi_ok Psi_k67_ok Tryz.func67 b_k67_ok (by kernel_rfl) fun x=>M.le_req (fun h=>by obtain ⟨_,_,_,hf,_⟩:=h;exact caps_pre ⟨trivial,isSome_of hf⟩) (M.le_trans (M.le_of_eq (l_k67 x)) (sWatch2 x))
def b_k28:Code:=Tryz.f28.body.getD .skip
theorem b_k28_ok:Tryz.f28.body=some b_k28:=by kernel_rfl
def U_k28:FnTab:={ fnv:=fun k=>none,clv:=fun k=>if k=66 then some ⟨[t71],[t3,t28],t4,fcWatch1.sh⟩ else if k=67 then some ⟨[t80],[t3],(.prod t3 t4),fcWatch2.sh⟩ else none }
theorem U_k28_ok:FnTabOk Tryz.prog U_k28 where
 fnv:=by
  intro k v h
  simp only [U_k28] at h
  cases h
 clv:=by
  intro k v h
  simp only [U_k28] at h
  split at h
  ·cases h;subst_vars;exact ⟨rfl,spec_k66⟩
  split at h
  ·cases h;subst_vars;exact ⟨rfl,spec_k67⟩
  cases h
def Psi_k28 (k:Nat):Option KC:=if k=42 then some (.sc ⟨(.prod t28 t75),(.prod t71 t34),fcRead.sh,true⟩) else if k=54 then some (.sc ⟨(.prod t71 t95),(.prod t42 t4),fcSpan.sh,true⟩) else none
theorem Psi_k28_ok:PsiOk Tryz.prog U_k28 Psi_k28:=by
 intro k c h
 unfold Psi_k28 at h
 split at h
 ·cases h;subst_vars;exact ⟨spec_k42,fun _ _=>M.det_det⟩
 split at h
 ·cases h;subst_vars;exact ⟨spec_k54,fun _ _=>M.det_det⟩
 cases h
def ann_k28:Ann:=(.seq .leaf (.seq .leaf (.seq (.seq .leaf (.cond (.seq .leaf .leaf) .leaf)) (.seq .leaf (.seq .leaf .leaf)))))
theorem l_k28 (x):funI U_k28 (tabT tab) noPhi Psi_k28 Tryz.f28 b_k28 ann_k28 (.prod t28 t3) (.prod t42 t34) x=S_hire_Watch fcRead.sh fcSpan.sh fcWatch1.sh fcWatch2.sh x:=by kernel_rfl
theorem spec_k28:FnSpec Tryz.prog 28 (.prod t28 t3) (.prod t42 t34) fcWatch.sh:=
 fn_ok mixOk tabOk U_k28_ok noPhi_ok Psi_k28_ok Tryz.func28 b_k28_ok (by kernel_rfl) fun x=>M.le_trans (M.le_of_eq (l_k28 x)) (sHWatch x)
def b_k58:Code:=Tryz.f58.body.getD .skip
theorem b_k58_ok:Tryz.f58.body=some b_k58:=by kernel_rfl
def Psi_k58 (k:Nat):Option KC:=if k=59 then some (.sc ⟨t3,t4,fcId.sh,true⟩) else none
theorem Psi_k58_ok:PsiOk Tryz.prog noU Psi_k58:=by
 intro k c h
 unfold Psi_k58 at h
 split at h
 ·cases h;subst_vars;exact ⟨spec_k59,fun _ _=>M.det_det⟩
 cases h
def ann_k58:Ann:=(.seq .leaf (.seq .leaf .leaf))
theorem l_k58 (x):codeI noU (tabT tab) noPhi Psi_k58 ann_k58 b_k58 (capsSt 1 (parSt (.prod t71 (.ptr t3)) x)) (retI (tabT tab) Tryz.f58.results.toList t4)=S_hire_Owes_c1 fcId.sh x:=by kernel_rfl
theorem spec_k58:FnSpec Tryz.prog 58 (.prod t71 (.ptr t3)) t4 fcIdP.sh:=
 fnC_ok (n:=1) mixOk tabOk noU_ok noPhi_ok Psi_k58_ok Tryz.func58 b_k58_ok (by kernel_rfl) fun x=>M.le_req (fun h=>by obtain ⟨f,hf,_⟩:=h;exact caps_pre ⟨trivial,isSome_of hf⟩) (M.le_trans (M.le_of_eq (l_k58 x)) (sOwes1 x))
def b_k60:Code:=Tryz.f60.body.getD .skip
theorem b_k60_ok:Tryz.f60.body=some b_k60:=by kernel_rfl
def Psi_k60 (k:Nat):Option KC:=if k=51 then some (.sc ⟨(.prod t26 t3),t3,fcPrice.sh,true⟩) else if k=61 then some (.sc ⟨(.prod t71 t80),t97,fcBookHires.sh,true⟩) else none
theorem Psi_k60_ok:PsiOk Tryz.prog noU Psi_k60:=by
 intro k c h
 unfold Psi_k60 at h
 split at h
 ·cases h;subst_vars;exact ⟨spec_k51,fun _ _=>M.det_det⟩
 split at h
 ·cases h;subst_vars;exact ⟨spec_k61,fun _ _=>M.det_det⟩
 cases h
def ann_k60:Ann:=(.seq .leaf (.seq .leaf (.seq (.seq .leaf (.block (.range ⟨[(2,.pp t3),(3,.pp t28),(7,.loc 7 0)],[(7,.cells t3 [.val t3])]⟩ ⟨[(2,.pp t3),(3,.pp t28),(7,.loc 100007 0),(13,.val t39),(14,.val t3)],[(100007,.cells t3 [.val t3])]⟩ ⟨[],[(100007,.cells t3 [.val t3])]⟩ (.seq .leaf .leaf) (.block (.seq .leaf (.cond .leaf .leaf)))))) (.seq .leaf .leaf))))
theorem l_k60 (x):codeI noU (tabT tab) noPhi Psi_k60 ann_k60 b_k60 (capsSt 1 (parSt (.prod t80 (.prod (.ptr t71) (.prod (.ptr t3) (.ptr t28)))) x)) (retI (tabT tab) Tryz.f60.results.toList (.prod t3 t4))=S_hire_Owes_c2 fcPrice.sh fcBookHires.sh x:=by kernel_rfl
theorem spec_k60:FnSpec Tryz.prog 60 (.prod t80 (.prod (.ptr t71) (.prod (.ptr t3) (.ptr t28)))) (.prod t3 t4) fcOwes2.sh:=
 fnC_ok (n:=1) mixOk tabOk noU_ok noPhi_ok Psi_k60_ok Tryz.func60 b_k60_ok (by kernel_rfl) fun x=>M.le_req (fun h=>by obtain ⟨_,_,_,_,rfl,_⟩:=h;exact caps_pre ⟨⟨⟨trivial,rfl⟩,rfl⟩,rfl⟩) (M.le_trans (M.le_of_eq (l_k60 x)) (sOwes2 x))
def b_k24:Code:=Tryz.f24.body.getD .skip
theorem b_k24_ok:Tryz.f24.body=some b_k24:=by kernel_rfl
def U_k24:FnTab:={ fnv:=fun k=>none,clv:=fun k=>if k=58 then some ⟨[t71],[t3],t4,fcIdP.sh⟩ else if k=60 then some ⟨[t80],[t71,t3,t28],(.prod t3 t4),fcOwes2.sh⟩ else none }
theorem U_k24_ok:FnTabOk Tryz.prog U_k24 where
 fnv:=by
  intro k v h
  simp only [U_k24] at h
  cases h
 clv:=by
  intro k v h
  simp only [U_k24] at h
  split at h
  ·cases h;subst_vars;exact ⟨rfl,spec_k58⟩
  split at h
  ·cases h;subst_vars;exact ⟨rfl,spec_k60⟩
  cases h
def Psi_k24 (k:Nat):Option KC:=if k=42 then some (.sc ⟨(.prod t28 t75),(.prod t71 t34),fcRead.sh,true⟩) else if k=54 then some (.sc ⟨(.prod t71 t95),(.prod t42 t4),fcSpan.sh,true⟩) else none
theorem Psi_k24_ok:PsiOk Tryz.prog U_k24 Psi_k24:=by
 intro k c h
 unfold Psi_k24 at h
 split at h
 ·cases h;subst_vars;exact ⟨spec_k42,fun _ _=>M.det_det⟩
 split at h
 ·cases h;subst_vars;exact ⟨spec_k54,fun _ _=>M.det_det⟩
 cases h
def ann_k24:Ann:=(.seq .leaf (.seq .leaf (.seq (.seq .leaf (.cond (.seq .leaf .leaf) .leaf)) (.seq .leaf (.seq .leaf .leaf)))))
theorem l_k24 (x):funI U_k24 (tabT tab) noPhi Psi_k24 Tryz.f24 b_k24 ann_k24 (.prod t28 t3) (.prod t42 t34) x=S_hire_Owes fcRead.sh fcSpan.sh fcIdP.sh fcOwes2.sh x:=by kernel_rfl
theorem spec_k24:FnSpec Tryz.prog 24 (.prod t28 t3) (.prod t42 t34) fcOwes.sh:=
 fn_ok mixOk tabOk U_k24_ok noPhi_ok Psi_k24_ok Tryz.func24 b_k24_ok (by kernel_rfl) fun x=>M.le_trans (M.le_of_eq (l_k24 x)) (sHOwes x)
end Go.Fer.Sk
namespace Go.Fer.Sk
open Go.Proofs
open M (Step)
set_option maxRecDepth 100000
set_option linter.unusedVariables false
set_option linter.unusedSimpArgs false
def b_k17:Code:=Tryz.f17.body.getD .skip
theorem b_k17_ok:Tryz.f17.body=some b_k17:=by kernel_rfl
def Psi_k17 (k:Nat):Option KC:=none
theorem Psi_k17_ok:PsiOk Tryz.prog noU Psi_k17:=by
 intro k c h
 unfold Psi_k17 at h
 cases h
def ann_k17:Ann:=(.seq .leaf (.seq (.seq .leaf (.cond (.seq .leaf .leaf) .leaf)) (.join ⟨[],[]⟩ (.seq .leaf (.block (.loop ⟨[(0,.val t24),(1,.val t24),(5,.val t3)],[]⟩ (.seq (.seq .leaf (.cond .leaf .leaf)) (.seq (.block (.seq .leaf (.cond (.seq .leaf .leaf) .leaf))) .leaf))))) (.seq .leaf .leaf))))
theorem l_k17 (x):funI noU (tabT tab) noPhi Psi_k17 Tryz.f17 b_k17 ann_k17 (.prod t24 t24) t4 x=S_law09_sameInts  x:=by kernel_rfl
theorem spec_k17:FnSpec Tryz.prog 17 (.prod t24 t24) t4 fcSameInts.sh:=
 fn_ok mixOk tabOk noU_ok noPhi_ok Psi_k17_ok Tryz.func17 b_k17_ok (by kernel_rfl) fun x=>M.le_trans (M.le_of_eq (l_k17 x)) (sSameInts9 x)
def b_k41:Code:=Tryz.f41.body.getD .skip
theorem b_k41_ok:Tryz.f41.body=some b_k41:=by kernel_rfl
def Psi_k41 (k:Nat):Option KC:=none
theorem Psi_k41_ok:PsiOk Tryz.prog noU Psi_k41:=by
 intro k c h
 unfold Psi_k41 at h
 cases h
def ann_k41:Ann:=(.seq .leaf (.seq .leaf .leaf))
theorem l_k41 (x):funI noU (tabT tab) noPhi Psi_k41 Tryz.f41 b_k41 ann_k41 .unit t28 x=S_law09_Example  x:=by kernel_rfl
theorem spec_k41:FnSpec Tryz.prog 41 .unit t28 fcExample.sh:=
 fn_ok mixOk tabOk noU_ok noPhi_ok Psi_k41_ok Tryz.func41 b_k41_ok (by kernel_rfl) fun x=>M.le_trans (M.le_of_eq (l_k41 x)) (sExample9 x)
def b_k13:Code:=Tryz.f13.body.getD .skip
theorem b_k13_ok:Tryz.f13.body=some b_k13:=by kernel_rfl
def Psi_k13 (k:Nat):Option KC:=if k=14 then some (.sc ⟨(.prod t28 (.prod t3 t3)),(.prod t24 t34),fcWhere.sh,true⟩) else if k=17 then some (.sc ⟨(.prod t24 t24),t4,fcSameInts.sh,true⟩) else if k=18 then some (.sc ⟨(.prod t28 t3),(.prod t42 t34),fcFee.sh,true⟩) else if k=22 then some (.sc ⟨(.prod t28 t3),(.prod t42 t34),fcHeld.sh,true⟩) else if k=28 then some (.sc ⟨(.prod t28 t3),(.prod t42 t34),fcWatch.sh,true⟩) else if k=41 then some (.sc ⟨.unit,t28,fcExample.sh,true⟩) else none
theorem Psi_k13_ok:PsiOk Tryz.prog noU Psi_k13:=by
 intro k c h
 unfold Psi_k13 at h
 split at h
 ·cases h;subst_vars;exact ⟨spec_k14,fun _ _=>M.det_det⟩
 split at h
 ·cases h;subst_vars;exact ⟨spec_k17,fun _ _=>M.det_det⟩
 split at h
 ·cases h;subst_vars;exact ⟨spec_k18,fun _ _=>M.det_det⟩
 split at h
 ·cases h;subst_vars;exact ⟨spec_k22,fun _ _=>M.det_det⟩
 split at h
 ·cases h;subst_vars;exact ⟨spec_k28,fun _ _=>M.det_det⟩
 split at h
 ·cases h;subst_vars;exact ⟨spec_k41,fun _ _=>M.det_det⟩
 cases h
def ann_k13:Ann:=(.seq .leaf (.seq .leaf (.seq .leaf (.seq .leaf (.seq .leaf (.seq .leaf (.seq .leaf .leaf)))))))
theorem l_k13 (x):funI noU (tabT tab) noPhi Psi_k13 Tryz.f13 b_k13 ann_k13 .unit t4 x=S_law09_works fcWhere.sh fcSameInts.sh fcFee.sh fcHeld.sh fcWatch.sh fcExample.sh x:=by kernel_rfl
theorem spec_k13:FnSpec Tryz.prog 13 .unit t4 fcWorks.sh:=
 fn_ok mixOk tabOk noU_ok noPhi_ok Psi_k13_ok Tryz.func13 b_k13_ok (by kernel_rfl) fun x=>M.le_trans (M.le_of_eq (l_k13 x)) (sWorks9 x)
def b_k25:Code:=Tryz.f25.body.getD .skip
theorem b_k25_ok:Tryz.f25.body=some b_k25:=by kernel_rfl
def Psi_k25 (k:Nat):Option KC:=if k=27 then some (.sc ⟨t28,t34,fcCheck.sh,true⟩) else none
theorem Psi_k25_ok:PsiOk Tryz.prog noU Psi_k25:=by
 intro k c h
 unfold Psi_k25 at h
 split at h
 ·cases h;subst_vars;exact ⟨spec_k27,fun _ _=>M.det_det⟩
 cases h
def ann_k25:Ann:=(.seq .leaf (.seq (.seq .leaf (.cond (.seq .leaf .leaf) .leaf)) (.seq (.seq .leaf (.cond (.seq .leaf .leaf) .leaf)) (.seq .leaf (.join ⟨[(3,.val t3)],[]⟩ (.seq .leaf (.block (.loop ⟨[(1,.loc 1 0),(3,.val t3),(4,.val t3)],[(1,.whole t28)]⟩ (.seq (.seq .leaf (.cond .leaf .leaf)) (.seq (.block .leaf) .leaf))))) (.seq .leaf .leaf))))))
theorem l_k25 (x):funI noU (tabT tab) noPhi Psi_k25 Tryz.f25 b_k25 ann_k25 t28 t4 x=S_law09_Far fcCheck.sh x:=by kernel_rfl
theorem spec_k25:FnSpec Tryz.prog 25 t28 t4 fcFar.sh:=
 fn_ok mixOk tabOk noU_ok noPhi_ok Psi_k25_ok Tryz.func25 b_k25_ok (by kernel_rfl) fun x=>M.le_trans (M.le_of_eq (l_k25 x)) (sFar9 x)
def b_k11:Code:=Tryz.f11.body.getD .skip
theorem b_k11_ok:Tryz.f11.body=some b_k11:=by kernel_rfl
def Psi_k11 (k:Nat):Option KC:=if k=25 then some (.sc ⟨t28,t4,fcFar.sh,true⟩) else if k=27 then some (.sc ⟨t28,t34,fcCheck.sh,true⟩) else none
theorem Psi_k11_ok:PsiOk Tryz.prog noU Psi_k11:=by
 intro k c h
 unfold Psi_k11 at h
 split at h
 ·cases h;subst_vars;exact ⟨spec_k25,fun _ _=>M.det_det⟩
 split at h
 ·cases h;subst_vars;exact ⟨spec_k27,fun _ _=>M.det_det⟩
 cases h
def ann_k11:Ann:=(.seq .leaf (.seq .leaf .leaf))
theorem l_k11 (x):funI noU (tabT tab) noPhi Psi_k11 Tryz.f11 b_k11 ann_k11 t28 t4 x=S_law09_ready fcFar.sh fcCheck.sh x:=by kernel_rfl
theorem spec_k11:FnSpec Tryz.prog 11 t28 t4 fcReady.sh:=
 fn_ok mixOk tabOk noU_ok noPhi_ok Psi_k11_ok Tryz.func11 b_k11_ok (by kernel_rfl) fun x=>M.le_trans (M.le_of_eq (l_k11 x)) (sReady9 x)
end Go.Fer.Sk
namespace Go.Fer
open M (Step)
set_option linter.unusedVariables false
set_option linter.unusedSimpArgs false
theorem cmp_mem {l:List Int}:∀ j,j<l.length→l.getD j 0∈cmp l l.length:=by
 intro j
 induction j with
 | zero=>
  intro h
  unfold cmp
  exact List.mem_map.2 ⟨0,List.mem_filter.2 ⟨by simpa using h,by simp [keepB]⟩,rfl⟩
 | succ j ih=>
  intro h
  by_cases hk:keepB l (j+1)=true
  ·unfold cmp
   exact List.mem_map.2 ⟨j+1,List.mem_filter.2 ⟨by simpa using h,hk⟩,rfl⟩
  ·have:l.getD (j+1) 0=l.getD j 0:=by
    unfold keepB at hk
    simpa using hk
   rw [this]
   exact ih (by omega)
theorem mem_cmp {l:List Int} {x:Int}:x∈cmp l l.length↔x∈l:=by
 constructor
 ·intro h
  unfold cmp at h
  obtain ⟨j,hj,rfl⟩:=List.mem_map.1 h
  have hj:j<l.length:=by simpa using (List.mem_filter.1 hj).1
  rw [getD_lt hj]
  exact List.getElem_mem hj
 ·intro h
  obtain ⟨j,hj,rfl⟩:=List.mem_iff_getElem.1 h
  rw [←getD_lt (d:=0) hj]
  exact cmp_mem j hj
theorem cmp_pair {l:List Int} (h:l.Pairwise (·≤·)):(cmp l l.length).Pairwise (·<·):=by
 unfold cmp
 rw [List.pairwise_map]
 have hr:((List.range l.length).filter (keepB l)).Pairwise (·<·):=List.Pairwise.filter _ List.pairwise_lt_range
 refine List.Pairwise.imp_of_mem ?_ hr
 intro i j hi hj hij
 obtain ⟨hj1,hj2⟩:=List.mem_filter.1 hj
 have hj1:j<l.length:=by simpa using hj1
 have hne:l.getD j 0≠l.getD (j - 1) 0:=by
  unfold keepB at hj2
  simp only [Bool.or_eq_true,decide_eq_true_eq] at hj2
  exact hj2.resolve_left (by omega)
 have hs:=List.pairwise_iff_getElem.1 h
 have hle:∀ a b,a≤b→(hb:b<l.length)→l.getD a 0≤l.getD b 0:=by
  intro a b hab hb
  rw [getD_lt hb,getD_lt (by omega:a<l.length)]
  rcases Nat.lt_or_eq_of_le hab with h | h
  ·exact hs a b (by omega) hb h
  ·subst h;exact Int.le_refl _
 have h1:=hle i (j - 1) (by omega) (by omega)
 have h2:=hle (j - 1) j (by omega) hj1
 omega
def voidV (a b:List Int):List Int:=(intR 0 99).filter fun id=>a.contains id||b.contains id
theorem intR_pair (a b:Int):(intR a b).Pairwise (·<·):=by
 unfold intR
 rw [List.pairwise_map]
 exact (List.pairwise_lt_range).imp fun h=>by omega
theorem asc_ext {a b:List Int} (ha:a.Pairwise (·<·)) (hb:b.Pairwise (·<·)) (h:∀ x,x∈a↔x∈b):a=b:=by
 have na:a.Nodup:=ha.imp fun h=>by omega
 have nb:b.Nodup:=hb.imp fun h=>by omega
 have hp:=(List.perm_ext_iff_of_nodup na nb).2 h
 rw [←isortI_eq (ha.imp fun h=>by omega) (List.Perm.refl a)]
 exact isortI_eq (hb.imp fun h=>by omega) hp
theorem cmp_void {a b:List Int} (ha:∀ x∈a,inR x 0 99=true) (hb:∀ x∈b,inR x 0 99=true):cmp (isort ltI (a++b)) (isort ltI (a++b)).length=voidV a b:=by
 refine asc_ext (cmp_pair (isortI_pair _)) (List.Pairwise.filter _ (intR_pair 0 99)) fun x=>?_
 rw [mem_cmp,mem_isort]
 unfold voidV
 simp only [List.mem_append,List.mem_filter,mem_intR,Bool.or_eq_true,List.contains_iff_mem]
 refine ⟨fun h=>⟨?_,h⟩,fun h=>h.2⟩
 rcases h with h | h
 ·exact inR_iff.1 (ha x h)
 ·exact inR_iff.1 (hb x h)
abbrev zC:Ctr:=([],[],[],[],0,0,0,0,0,0,0)
def withS (c:Ctr) (more:List Slip) (vo:List Int):Ctr:=(c.1,more,vo,c.2.2.2)
def mergeV (c:Ctr) (more:List Slip) (vo:List Int):Ctr×Int:=
 if checkV c≠0 then (zC,checkV c) else if checkV (withS c more vo)≠0 then (zC,checkV (withS c more vo)) else
 if clashB (c.2.1++more)=true then (zC,91) else
 if (decide (Int.ofNat (onceV (c.2.1++more)).length > 12)||decide (Int.ofNat (voidV c.2.2.1 vo).length > 12))=true then (zC,90) else (withS c (onceV (c.2.1++more)) (voidV c.2.2.1 vo),0)
abbrev fcMerge:FC:=⟨.prod tC (.prod (.slice tSlip) tInts),.st (.prod tC tI),fun x=>smallC x.1∧x.2.1.length<2 ^ 63∧x.2.2.length<2 ^ 63,fun x=>mergeV x.1 x.2.1 x.2.2⟩
abbrev fcCloneSpan:FC:=⟨.slice tSpan,.slice tSpan,fun x=>x.length<65536,fun x=>x⟩
theorem sCloneSpan (x):M.le (S_slices_Clone_api_Span_api_Span x) (fcCloneSpan.sh x):=M.le_detR fun h=>by
 unfold S_slices_Clone_api_Span_api_Span
 rw [M.ret_bind]
 refine ⟨⟨false,by simp⟩,fun b hb=>?_⟩
 change b=true→x=[] at hb
 cases b with
 | true=>rw [hb rfl];exact M.ret_pure.2 rfl
 | false=>
  simp only [Bool.false_eq_true,if_false]
  exact M.ret_req.2 ⟨lenLe_of (by simpa using h),M.ret_pure.2 (by simp)⟩
structure IsCtr (c:Ctr):Prop where
 n1:c.1.length≤3
 n2:c.2.1.length≤12
 n3:c.2.2.1.length≤12
 n4:c.2.2.2.1.length≤4
 ids:∀ s∈c.2.1,inR s.1 0 99=true
 vo:∀ n∈c.2.2.1,inR n 0 99=true
 cl:clashB c.2.1=false
theorem check_zero {c:Ctr} (h:checkV c=0):IsCtr c:=by
 unfold checkV at h
 by_cases hc:counterV c=true
 ·rw [if_pos hc] at h
  have hcl:clashB c.2.1=false:=by
   cases hb:clashB c.2.1 with
   | false=>rfl
   | true=>rw [hb] at h;simp at h
  have hi:=counter_ids hc
  unfold counterV sizeV at hc
  simp only [Bool.and_eq_true,List.all_eq_true,Bool.not_eq_true',Bool.or_eq_false_iff,decide_eq_false_iff_not] at hc
  obtain ⟨⟨⟨⟨⟨hz,_⟩,_⟩,h2⟩,h3⟩,_⟩:=hc
  exact ⟨by omega,by omega,by omega,by omega,hi.2,h3,hcl⟩
 ·rw [if_neg hc] at h
  exact absurd h (by decide)
theorem app_ids {a b:List Slip} (ha:a.length≤12) (hb:b.length≤12) (h1:∀ s∈a,inR s.1 0 99=true) (h2:∀ s∈b,inR s.1 0 99=true):idsOk (a++b):=
 ⟨by simp;omega,fun s hs=>(List.mem_append.1 hs).elim (h1 s) (h2 s)⟩
theorem sHMerge (x):M.le (S_hire_Merge fcCheck.sh fcOnceH.sh fcConcatS.sh shConcatI shSortI shCompactI fcCloneSpan.sh x) (fcMerge.sh x):=M.le_det fun h=>by
 obtain ⟨c,more,vo⟩:=x
 obtain ⟨h1,h2,h3⟩:=h
 change smallC c at h1
 change more.length<2 ^ 63 at h2
 change vo.length<2 ^ 63 at h3
 have hs2:smallC (withS c more vo):=⟨h1.1,h2,h3,h1.2.2.2⟩
 unfold S_hire_Merge
 show _=M.pure (mergeV c more vo)
 unfold mergeV
 rw [show fcCheck.sh (c,more,vo).1=M.pure (checkV c) from M.det_true h1 _,M.bind_pure]
 by_cases e1:checkV c=0
 ·have g1:=check_zero e1
  rw [show fcCheck.sh ((c,more,vo).1.1,(c,more,vo).2.1,(c,more,vo).2.2,(c,more,vo).1.2.2.2)=M.pure (checkV (withS c more vo)) from M.det_true hs2 _,M.bind_pure]
  by_cases e2:checkV (withS c more vo)=0
  ·have g2:=check_zero e2
   have n2:more.length≤12:=g2.n2
   have n3:vo.length≤12:=g2.n3
   have p2:=g1.n2
   have p3:=g1.n3
   have hi:idsOk (c.2.1++more):=app_ids g1.n2 g2.n2 g1.ids g2.ids
   rw [if_neg (by simp [e1]),if_neg (by simp [e2]),if_neg (by simp [e1]),if_neg (by simp [e2])]
   rw [show fcConcatS.sh [(c,more,vo).1.2.1,(c,more,vo).2.1]=M.pure (c.2.1++more) from (M.det_true ⟨by simp,by simp;omega⟩ _).trans (congrArg M.pure (by simp)),M.bind_pure]
   rw [show fcOnceH.sh (c.2.1++more)=M.pure (if clashB (c.2.1++more)=true then ([],false) else (onceV (c.2.1++more),true)) from M.det_true hi _,M.bind_pure]
   cases hc:clashB (c.2.1++more) with
   | true=>simp
   | false=>
    simp only [Bool.false_eq_true,if_false,Bool.not_true]
    rw [show shConcatI ([c.2.2.1,vo],())=M.pure (c.2.2.1++vo,()) from (M.det_true ⟨by simp,by simp;omega⟩ _).trans (congrArg M.pure (by simp)),M.bind_pure]
    rw [show shSortI ((c.2.2.1++vo,()):List Int×Unit)=M.pure (isort ltI (c.2.2.1++vo),()) from M.det_true (by show (c.2.2.1++vo).length<_;simp;omega) _,M.bind_pure]
    rw [show shCompactI ((isort ltI (c.2.2.1++vo),()):List Int×Unit)=M.pure (compV (isort ltI (c.2.2.1++vo))) from M.det_true (by show (isort ltI (c.2.2.1++vo)).length<_;rw [isort_length];simp;omega) _,M.bind_pure]
    have ev:=cmp_void g1.vo g2.vo
    unfold compV
    rw [show (cmp (isort ltI (c.2.2.1++vo)) (isort ltI (c.2.2.1++vo)).length)=voidV c.2.2.1 vo from ev]
    simp only [Nat.sub_zero,List.drop_zero,List.take_left]
    rw [show fcCloneSpan.sh c.1=M.pure c.1 from M.det_true (by have:=g1.n1;show c.1.length<_;omega) _,show fcCloneSpan.sh c.2.2.2.1=M.pure c.2.2.2.1 from M.det_true (by have:=g1.n4;show c.2.2.2.1.length<_;omega) _]
    simp only [M.pure_safe,M.val_pure,M.req_True]
    split<;>rfl
  ·rw [if_neg (by simp [e1]),if_pos (by simp [e2]),if_neg (by simp [e1]),if_pos e2]
 ·rw [if_pos (by simp [e1]),if_pos e1]
end Go.Fer
namespace Go.Fer
open M (Step)
set_option linter.unusedVariables false
set_option linter.unusedSimpArgs false
structure Alk (c d:Ctr):Prop where
 a1:d.1=c.1
 a2:d.2.2.2=c.2.2.2
 ac:countsV d=countsV c
 k1:checkV c=0
 k2:checkV d=0
section
variable {c d:Ctr}
theorem Alk.ev (h:Alk c d) (w:List Int) (u:Int):evL d w u=evL c w u:=by unfold evL evOf;rw [h.ac]
theorem Alk.trl (h:Alk c d) (w:List Int) (u:Int):truL d w u=truL c w u:=by unfold truL;rw [h.ev]
theorem Alk.tru (h:Alk c d) (w:List Int):truV d w=truV c w:=by
 unfold truV withinV
 rw [h.a1]
 refine congrArg _ ?_
 exact congrArg (List.all (intR 0 9)) (funext fun u=>by rw [h.ev])
theorem Alk.truths (h:Alk c d):∀ (l:List (Int×Int)) (w:List Int),truthsV d l w=truthsV c l w
 | [],w=>by unfold truthsV;rw [h.tru]
 | s::l,w=>by
  unfold truthsV
  refine congrArg (fun f=>List.flatMap f _) (funext fun n=>?_)
  exact h.truths l _
theorem Alk.tru0 (h:Alk c d):Go.Fer.tru0 d=Go.Fer.tru0 c:=by
 unfold Go.Fer.tru0
 rw [h.a1]
 exact h.truths _ _
theorem Alk.known (h:Alk c d) (b:Bool):knownV d b=knownV c b:=by
 unfold knownV
 rw [h.k1,h.k2,h.tru0]
theorem Alk.hire (h:Alk c d) (w:List Int) (n:Int):hireV d w n=hireV c w n:=by
 unfold hireV
 rw [h.a2]
 exact congrArg (fun f=>List.findSome? f (intR 0 9)) (funext fun u=>by rw [h.trl])
theorem Alk.isHire (h:Alk c d) (n:Int):isHireV d n=isHireV c n:=by unfold isHireV;rw [h.ac]
theorem Alk.hires (h:Alk c d) (n:Int):hiresV d n=hiresV c n:=by
 unfold hiresV
 rw [h.isHire,h.known]
 simp only [h.hire]
theorem Alk.fee (h:Alk c d) (n:Int):feeV d n=feeV c n:=by
 unfold feeV
 rw [h.hires,h.a2]
theorem Alk.sum (h:Alk c d) (w:List Int) (g:Int):sumV d w g=sumV c w g:=by
 unfold sumV
 rw [h.ac,h.a2]
 simp only [h.hire]
theorem Alk.owes (h:Alk c d) (g:Int):owesV d g=owesV c g:=by
 unfold owesV
 rw [h.known]
 simp only [h.sum]
theorem Alk.wher (h:Alk c d) (u t:Int):whereV d u t=whereV c u t:=by
 unfold whereV foundV
 rw [h.known]
 simp only [h.trl]
end
theorem onceV_mem {a b:List Slip} (ha:noClash a) (h:∀ s,s∈a↔s∈b):onceV a=onceV b:=by
 have key:∀ id:Int,(a.find? fun s=>s.1 == id)=b.find? fun s=>s.1 == id:=by
  intro id
  cases hf:b.find? fun s=>s.1 == id with
  | none=>
   rw [List.find?_eq_none] at hf ⊢
   exact fun s hs=>hf s ((h s).1 hs)
  | some s=>
   have h1:=List.mem_of_find?_eq_some hf
   have h2:=List.find?_some hf
   have h3:(a.find? fun s=>s.1 == id).isSome=true:=List.find?_isSome.2 ⟨s,(h s).2 h1,h2⟩
   obtain ⟨t,ht⟩:=Option.isSome_iff_exists.1 h3
   have h4:=List.mem_of_find?_eq_some ht
   have h5:=List.find?_some ht
   simp only [beq_iff_eq] at h2 h5
   rw [ht,ha t h4 s ((h s).2 h1) (by omega)]
 unfold onceV
 exact congrArg (fun f=>List.filterMap f (intR 0 99)) (funext key)
theorem mem_once_iff {l:List Slip} (hn:noClash l) (hid:∀ s∈l,inR s.1 0 99=true) (s:Slip):s∈onceV l↔s∈l:=by
 refine ⟨mem_onceV,fun hs=>?_⟩
 unfold onceV
 refine List.mem_filterMap.2 ⟨s.1,mem_intR.2 (inR_iff.1 (hid s hs)),?_⟩
 have h3:(l.find? fun t=>t.1 == s.1).isSome=true:=List.find?_isSome.2 ⟨s,hs,by simp⟩
 obtain ⟨t,ht⟩:=Option.isSome_iff_exists.1 h3
 have h4:=List.mem_of_find?_eq_some ht
 have h5:=List.find?_some ht
 simp only [beq_iff_eq] at h5
 rw [ht,hn t h4 s hs h5]
theorem noClash_sub {a b:List Slip} (h:noClash b) (hs:∀ s∈a,s∈b):noClash a:=fun x hx y hy he=>h x (hs x hx) y (hs y hy) he
theorem onceV_le {l:List Slip} (hn:noClash l) (hid:∀ s∈l,inR s.1 0 99=true):(onceV l).length≤l.length:=by
 obtain ⟨h1,_⟩:=onceM_spec l [] [] .nil
 rw [List.nil_append] at h1
 obtain ⟨m,_,hI⟩:=h1 hn
 exact onceV_length_le hI hid
theorem check_withS {c:Ctr} (hg:Good c) {sl:List Slip} {vo:List Int} (h1:sl.length≤12) (h2:∀ s∈sl,s∈c.2.1) (h3:vo.length≤12) (h4:∀ n∈vo,inR n 0 99=true):checkV (withS c sl vo)=0:=by
 have e:counterV (withS c sl vo)=true:=by
  have:=hg.cv
  unfold counterV sizeV at this ⊢
  simp only [Bool.and_eq_true,Bool.not_eq_true',Bool.or_eq_false_iff,decide_eq_false_iff_not,List.all_eq_true] at this ⊢
  obtain ⟨⟨⟨⟨⟨hz,h0⟩,k1⟩,k2⟩,k3⟩,k4⟩:=this
  exact ⟨⟨⟨⟨⟨⟨⟨⟨hz.1.1.1,by show ¬((sl.length:Int) > 12);omega⟩,by show ¬((vo.length:Int) > 12);omega⟩,hz.2⟩,h0⟩,k1⟩,fun s hs=>k2 s (h2 s hs)⟩,h4⟩,k4⟩
 have hn:noClash (withS c sl vo).2.1:=noClash_sub hg.nc h2
 unfold checkV
 rw [if_pos e,(clashB_iff _).2 hn];rfl
theorem alk_withS {c:Ctr} (hg:Good c) {sl:List Slip} {vo:List Int} (h1:sl.length≤12) (h2:∀ s,s∈sl↔s∈c.2.1) (h3:vo.length≤12) (h4:∀ n,n∈vo↔n∈c.2.2.1):Alk c (withS c sl vo):=by
 have hv:=(check_zero hg.ck).vo
 refine ⟨rfl,rfl,?_,hg.ck,check_withS hg h1 (fun s hs=>(h2 s).1 hs) h3 fun n hn=>hv n ((h4 n).1 hn)⟩
 unfold countsV
 show (onceV sl).filter (fun s=>!vo.contains s.1)=_
 rw [onceV_mem (noClash_sub hg.nc fun s hs=>(h2 s).1 hs) h2]
 refine List.filter_congr fun s _=>?_
 rw [Bool.eq_iff_iff]
 simp [h4]
abbrev tAsk:Ty:=.st (.prod tI (.prod tI (.prod tI (.prod tI tI))))
abbrev fcAlike:FC:=⟨.prod tC (.prod tC tAsk),tB,fun x=>notFar x.1∧notFar x.2.1∧Alk x.1 x.2.1,fun _=>true⟩
theorem sAlike (x):M.le (S_law09_alike fcWhere.sh fcSameInts.sh fcFee.sh fcOwes.sh x) (fcAlike.sh x):=M.le_det fun h=>by
 obtain ⟨c,d,k,s,g,u,t⟩:=x
 obtain ⟨h1,h2,h3⟩:=h
 change notFar c at h1
 change notFar d at h2
 change Alk c d at h3
 unfold S_law09_alike
 show _=M.pure true
 have l1:(whereV c u t).1.length≤1000:=Nat.le_trans (List.length_filter_le _ _) (by decide)
 simp only [show fcFee.sh (c,s)=M.pure (feeV c s) from M.det_true h1 _,show fcFee.sh (d,s)=M.pure (feeV c s) from (M.det_true h2 _).trans (congrArg M.pure (h3.fee s)),show fcOwes.sh (c,g)=M.pure (owesV c g) from M.det_true h1 _,show fcOwes.sh (d,g)=M.pure (owesV c g) from (M.det_true h2 _).trans (congrArg M.pure (h3.owes g)),show fcWhere.sh (c,u,t)=M.pure (whereV c u t) from M.det_true h1 _,show fcWhere.sh (d,u,t)=M.pure (whereV c u t) from (M.det_true h2 _).trans (congrArg M.pure (h3.wher u t)),M.bind_pure]
 rw [show fcSameInts.sh ((whereV c u t).1,(whereV c u t).1)=M.pure true from (M.det_true ⟨show (whereV c u t).1.length<2 ^ 63 by omega,show (whereV c u t).1.length<2 ^ 63 by omega⟩ _).trans (congrArg M.pure (decide_eq_true rfl))]
 simp
def turnL (c:Ctr) (b:Int):List Slip:=(List.range c.2.1.length).flatMap fun (i:Nat)=>[c.2.1.getD (Int.toNat (Int.tmod ((i:Int)+b) (c.2.1.length:Int))) z6,c.2.1.getD i z6]
theorem turn_len (c:Ctr) (b:Int):(turnL c b).length=2*c.2.1.length:=by
 unfold turnL
 have:∀ l:List Nat,(l.flatMap fun (i:Nat)=>[c.2.1.getD (Int.toNat (Int.tmod ((i:Int)+b) (c.2.1.length:Int))) z6,c.2.1.getD i z6]).length=2*l.length:=by
  intro l
  induction l with
  | nil=>rfl
  | cons x l ih=>rw [List.flatMap_cons,List.length_append,ih];simp;omega
 rw [this,List.length_range]
theorem tmod_in {n:Nat} (i:Nat) {b:Int} (hb:0≤b) (hn:0<n):0≤Int.tmod ((i:Int)+b) (n:Int)∧Int.tmod ((i:Int)+b) (n:Int)<(n:Int):=
 ⟨Int.tmod_nonneg _ (by omega),Int.tmod_lt_of_pos _ (by omega)⟩
theorem mem_turn {c:Ctr} {b:Int} (hb:0≤b) (s:Slip):s∈turnL c b↔s∈c.2.1:=by
 unfold turnL
 rw [List.mem_flatMap]
 constructor
 ·rintro ⟨i,hi,h⟩
  have hi:i<c.2.1.length:=by simpa using hi
  have ht:=tmod_in (n:=c.2.1.length) i hb (by omega)
  simp only [List.mem_cons,List.not_mem_nil,or_false] at h
  rcases h with rfl | rfl
  ·rw [getD_lt (by omega)];exact List.getElem_mem _
  ·rw [getD_lt hi];exact List.getElem_mem _
 ·intro h
  obtain ⟨i,hi,rfl⟩:=List.mem_iff_getElem.1 h
  refine ⟨i,by simpa using hi,?_⟩
  rw [getD_lt hi]
  simp
theorem foldl_flat {α β:Type} (f:α→List β):∀ (l:List α) (b:List β),l.foldl (fun b x=>b++f x) b=b++l.flatMap f
 | [],b=>by simp
 | x::l,b=>by simp [foldl_flat f l,List.flatMap_cons]
theorem not_far {c:Ctr} (hf:notFar c) {d:Ctr} (h:Alk c d) (hd:IsCtr d):notFar d:=by
 refine ⟨⟨by have:=hd.n1;omega,by have:=hd.n2;omega,by have:=hd.n3;omega,by have:=hd.n4;omega⟩,fun _=>?_⟩
 rw [h.a1]
 exact hf.2 h.k1
theorem void_self {c:Ctr} (hi:IsCtr c):(voidV c.2.2.1 c.2.2.1).length≤c.2.2.1.length∧∀ n,n∈voidV c.2.2.1 c.2.2.1↔n∈c.2.2.1:=by
 have hm:∀ n,n∈voidV c.2.2.1 c.2.2.1↔n∈c.2.2.1:=fun n=>by
  unfold voidV
  simp only [List.mem_filter,mem_intR,Bool.or_self,List.contains_iff_mem]
  exact ⟨fun h=>h.2,fun h=>⟨inR_iff.1 (hi.vo n h),h⟩⟩
 have hn:(voidV c.2.2.1 c.2.2.1).Nodup:=((intR_pair 0 99).filter _).imp fun h=>by omega
 exact ⟨hn.length_le_of_subset fun n h=>(hm n).1 h,hm⟩
theorem merge_late {c:Ctr} (hg:Good c) (h6:c.2.1.length≤6) (k:Nat) (hk:k≤c.2.1.length) :
  ∃ X,X.length≤c.2.1.length∧(∀ s,s∈X↔s∈c.2.1)∧mergeV (withS c (c.2.1.drop k) c.2.2.1) (c.2.1.take k) c.2.2.1=(withS c X (voidV c.2.2.1 c.2.2.1),0):=by
 have hi:=check_zero hg.ck
 have hd:∀ s∈c.2.1.drop k,s∈c.2.1:=fun s=>List.mem_of_mem_drop
 have ht:∀ s∈c.2.1.take k,s∈c.2.1:=fun s=>List.mem_of_mem_take
 have hl:=hi.n3
 have e1:checkV (withS c (c.2.1.drop k) c.2.2.1)=0:=check_withS hg (by rw [List.length_drop];omega) hd hl hi.vo
 have e2:checkV (withS c (c.2.1.take k) c.2.2.1)=0:=check_withS hg (by rw [List.length_take];omega) ht hl hi.vo
 have hall:∀ s,s∈c.2.1.drop k++c.2.1.take k↔s∈c.2.1:=fun s=>by
  rw [List.mem_append]
  refine ⟨fun h=>h.elim (hd s) (ht s),fun h=>?_⟩
  rw [←List.take_append_drop k c.2.1,List.mem_append] at h
  exact h.symm
 have hn:noClash (c.2.1.drop k++c.2.1.take k):=noClash_sub hg.nc fun s h=>(hall s).1 h
 have hid:∀ s∈c.2.1.drop k++c.2.1.take k,inR s.1 0 99=true:=fun s h=>hi.ids s ((hall s).1 h)
 have hlen:(c.2.1.drop k++c.2.1.take k).length=c.2.1.length:=by rw [List.length_append,List.length_drop,List.length_take];omega
 have ho:=onceV_le hn hid
 rw [hlen] at ho
 obtain ⟨v1,v2⟩:=void_self hi
 refine ⟨onceV (c.2.1.drop k++c.2.1.take k),ho,fun s=>(mem_once_iff hn hid s).trans (hall s),?_⟩
 unfold mergeV
 rw [if_neg (by simp [e1])]
 rw [show withS (withS c (c.2.1.drop k) c.2.2.1) (c.2.1.take k) c.2.2.1=withS c (c.2.1.take k) c.2.2.1 from rfl,if_neg (by simp [e2])]
 rw [show (withS c (c.2.1.drop k) c.2.2.1).2.1=c.2.1.drop k from rfl,(clashB_iff _).2 hn,if_neg (by simp)]
 rw [show (withS c (c.2.1.drop k) c.2.2.1).2.2.1=c.2.2.1 from rfl]
 have d1:decide (Int.ofNat (onceV (c.2.1.drop k++c.2.1.take k)).length > 12)=false:=by simp only [Int.ofNat_eq_natCast,gt_iff_lt,decide_eq_false_iff_not];omega
 have d2:decide (Int.ofNat (voidV c.2.2.1 c.2.2.1).length > 12)=false:=by simp only [Int.ofNat_eq_natCast,gt_iff_lt,decide_eq_false_iff_not];omega
 rw [d1,d2,if_neg (by simp)]
 rfl
theorem lawOrder (x:Ctr×(Int×Int)×Int×Int×Int×Int×Int) (h:smallC x.1):S_law09_HireOrder fcReady.sh fcWorks.sh fcCopy.sh fcMerge.sh fcAlike.sh x=M.pure true:=by
 obtain ⟨c,⟨b,late⟩,q⟩:=x
 change smallC c at h
 unfold S_law09_HireOrder
 rw [show fcReady.sh (c,(b,late),q).1=M.pure (readyV c) from M.det_true h _,M.bind_pure]
 show (if (!readyV c||decide (Int.ofNat c.2.1.length > 6)||decide (b<0)||decide (b > 100)||decide (late<0)||decide (late > Int.ofNat c.2.1.length))=true then _ else _)=_
 by_cases hc:(!readyV c||decide (Int.ofNat c.2.1.length > 6)||decide (b<0)||decide (b > 100)||decide (late<0)||decide (late > Int.ofNat c.2.1.length))=true
 ·rw [if_pos hc,works_eq,M.bind_pure]
 ·rw [if_neg hc]
  simp only [Bool.not_eq_true,Bool.or_eq_false_iff,decide_eq_false_iff_not,Bool.not_eq_false'] at hc
  obtain ⟨⟨⟨⟨⟨hr,l6⟩,b0⟩,b1⟩,p0⟩,p1⟩:=hc
  unfold readyV at hr
  simp only [Bool.and_eq_true,Bool.not_eq_true',decide_eq_true_eq] at hr
  obtain ⟨hf,hck⟩:=hr
  have hn:=far_small hf
  have hg:=good_of hck
  have hi:=check_zero hck
  have l6:c.2.1.length≤6:=by have:=l6;simp at this;omega
  have p1:late≤(c.2.1.length:Int):=by have:=p1;simp at this;omega
  rw [copy_eq hn,M.bind_pure]
  rw [M.loop_list (List.range c.2.1.length) (fun i (a:List Slip)=>((i:Int),c,(b,late),q,c.1,c.2.2.1,c.2.2.2.1,c.2.2.2.2.1,c.2.2.2.2.2.1,c.2.2.2.2.2.2.1,c.2.2.2.2.2.2.2.1,c.2.2.2.2.2.2.2.2.1,c.2.2.2.2.2.2.2.2.2.1,c.2.2.2.2.2.2.2.2.2.2,a,())) (fun (i:Nat) a=>.next (a++[c.2.1.getD (Int.toNat (Int.tmod ((i:Int)+b) (c.2.1.length:Int))) z6,c.2.1.getD i z6])) (fun a=>.next (c,(b,late),q,c.1,c.2.2.1,c.2.2.2.1,c.2.2.2.2.1,c.2.2.2.2.2.1,c.2.2.2.2.2.2.1,c.2.2.2.2.2.2.2.1,c.2.2.2.2.2.2.2.2.1,c.2.2.2.2.2.2.2.2.2.1,c.2.2.2.2.2.2.2.2.2.2,a,())) (fun i a=>a.length=2*i) [] ?_ ?_ ?_ ?_]
  ·rw [foldS_next,foldl_flat,List.nil_append,M.bind_pure,M.go_next]
   rw [show (List.range c.2.1.length).flatMap (fun (i:Nat)=>[c.2.1.getD (Int.toNat (Int.tmod ((i:Int)+b) (c.2.1.length:Int))) z6,c.2.1.getD i z6])=turnL c b from rfl]
   have hA:Alk c (withS c (turnL c b) c.2.2.1):=alk_withS hg (by rw [turn_len];omega) (fun s=>mem_turn (by omega) s) hi.n3 fun n=>Iff.rfl
   obtain ⟨X,x1,x2,x3⟩:=merge_late hg l6 late.toNat (by omega)
   obtain ⟨v1,v2⟩:=void_self hi
   have hB:Alk c (withS c X (voidV c.2.2.1 c.2.2.1)):=alk_withS hg (by omega) x2 (by have:=hi.n3;omega) v2
   have nA:=not_far hn hA (check_zero hA.k2)
   have nB:=not_far hn hB (check_zero hB.k2)
   show M.bind (fcCopy.sh c) _=_
   rw [copy_eq hn,M.bind_pure]
   show M.req (0≤late∧late≤Int.ofNat c.2.1.length∧Int.ofNat c.2.1.length≤Int.ofNat c.2.1.length) (M.req ((0:Int)≤0∧0≤late∧late≤Int.ofNat c.2.1.length) _)=_
   rw [M.req_true ⟨by omega,p1,Int.le_refl _⟩,M.req_true ⟨Int.le_refl _,by omega,p1⟩]
   have em:fcMerge.sh ((c.1,List.drop (Int.toNat late) (List.take (Int.toNat (Int.ofNat c.2.1.length)) c.2.1),c.2.2),List.take (Int.toNat late) c.2.1,c.2.2.1)=M.pure (withS c X (voidV c.2.2.1 c.2.2.1),0):=by
    refine (M.det_true ⟨⟨h.1,?_,h.2.2.1,h.2.2.2⟩,?_,h.2.2.1⟩ _).trans ?_
    ·refine congrArg M.pure ?_
     rw [←x3]
     show mergeV (withS c (List.drop late.toNat (List.take (Int.toNat (Int.ofNat c.2.1.length)) c.2.1)) c.2.2.1) (List.take late.toNat c.2.1) c.2.2.1=_
     rw [show Int.toNat (Int.ofNat c.2.1.length)=c.2.1.length from rfl,List.take_length]
    ·show (List.drop _ (List.take _ _)).length<_
     rw [List.length_drop,List.length_take];omega
    ·show (List.take _ _).length<_
     rw [List.length_take];omega
   have ea:fcAlike.sh (c,withS c (turnL c b) c.2.2.1,q)=M.pure true:=M.det_true ⟨hn,nA,hA⟩ _
   have eb:fcAlike.sh (c,withS c X (voidV c.2.2.1 c.2.2.1),q)=M.pure true:=M.det_true ⟨hn,nB,hB⟩ _
   simp only [em,M.pure_safe,M.req_True,M.val_pure]
   have hd:(decide ((0:Int)≠0)||decide (Int.ofNat (withS c X (voidV c.2.2.1 c.2.2.1)).2.1.length > Int.ofNat c.2.1.length))=false:=by
    have:¬(Int.ofNat X.length > Int.ofNat c.2.1.length):=by simp only [Int.ofNat_eq_natCast,gt_iff_lt];omega
    show (decide ((0:Int)≠0)||decide (Int.ofNat X.length > Int.ofNat c.2.1.length))=false
    simp [x1]
   rw [if_neg (by rw [hd];simp)]
   erw [ea,M.bind_pure,eb,M.gdo_pure,M.bind_pure,works_eq,M.gdo_pure,M.bind_pure]
   rfl
  ·rfl
  ·rfl
  ·intro i hi' a ha
   have hi':i<c.2.1.length:=by simpa using hi'
   have hw:=wrap64 (n:=(i:Int)+1) (by omega) (by omega)
   have hw2:=wrap64 (n:=(i:Int)+b) (by omega) (by omega)
   have ht:=tmod_in (n:=c.2.1.length) i (b:=b) (by omega) (by omega)
   refine ⟨?_,fun b' hb'=>?_⟩
   ·simp only [ofNat_def,lt_len hi',if_true,in_len hi',M.req_True,add_def,hw,hw2,ht,and_self,List.getElem_range,getD_kN]
    rw [M.req_true (by omega),M.req_true (lenLe_of (by show a.length+(0+1+1)<65536;omega))]
    rfl
   ·simp only [Step.next.injEq] at hb'
    subst hb'
    simp;omega
  ·intro a ha
   simp
end Go.Fer
namespace Go.Fer.Sk
open Go.Proofs
open M (Step)
set_option maxRecDepth 100000
set_option linter.unusedVariables false
set_option linter.unusedSimpArgs false
def b_k78:Code:=Tryz.f78.body.getD .skip
theorem b_k78_ok:Tryz.f78.body=some b_k78:=by kernel_rfl
def Psi_k78 (k:Nat):Option KC:=if k=108 then some (.io ioc_growS) else none
theorem Psi_k78_ok:PsiOk Tryz.prog noU Psi_k78:=by
 intro k c h
 unfold Psi_k78 at h
 split at h
 ·cases h;subst_vars;exact io_growS
 cases h
def ann_k78:Ann:=(.seq .leaf (.seq .leaf (.join ⟨[(0,.val t136),(3,.val t3)],[]⟩ (.seq .leaf (.block (.loop ⟨[(0,.val t136),(3,.val t3),(9,.val t136),(10,.val t3),(11,.val t3)],[]⟩ (.seq .leaf (.seq (.cond .leaf .leaf) (.join ⟨[(0,.val t136),(3,.val t3),(9,.val t136),(10,.val t3),(11,.val t3)],[]⟩ (.block (.seq .leaf (.seq .leaf (.seq .leaf (.cond .leaf .leaf))))) .leaf)))))) (.seq .leaf (.join ⟨[(6,.own 50240)],[(50240,.arr t39)]⟩ (.seq .leaf (.block (.loop ⟨[(6,.own 50240),(25,.val t136),(26,.val t3),(27,.val t3)],[(50240,.arr t39)]⟩ (.seq .leaf (.seq (.cond .leaf .leaf) (.seq (.block (.seq .leaf .leaf)) .leaf)))))) (.seq .leaf .leaf))))))
theorem l_k78 (x):funI noU (tabT tab) noPhi Psi_k78 Tryz.f78 b_k78 ann_k78 t136 t23 x=S_slices_ConcatS shGrowS x:=by kernel_rfl
theorem spec_k78:FnSpec Tryz.prog 78 t136 t23 fcConcatS.sh:=
 fn_ok mixOk tabOk noU_ok noPhi_ok Psi_k78_ok Tryz.func78 b_k78_ok (by kernel_rfl) fun x=>M.le_trans (M.le_of_eq (l_k78 x)) (sConcatS x)
def b_kconcat:Code:=Tryz.f79.body.getD .skip
theorem b_kconcat_ok:Tryz.f79.body=some b_kconcat:=by kernel_rfl
def Psi_kconcat (k:Nat):Option KC:=if k=109 then some (.io ioc_grow) else none
theorem Psi_kconcat_ok:PsiOk Tryz.prog noU Psi_kconcat:=by
 intro k c h
 unfold Psi_kconcat at h
 split at h
 ·cases h;subst_vars;exact io_grow
 cases h
def ioc_concat:IOC:=⟨⟨[(0,.val t104)],[]⟩,⟨[(0,.own 50240)],[(50240,.arr t3)]⟩,[none],1,shConcatI⟩
def ann_kconcat:Ann:=(.seq .leaf (.seq .leaf (.join ⟨[(0,.val t104),(3,.val t3)],[]⟩ (.seq .leaf (.block (.loop ⟨[(0,.val t104),(3,.val t3),(9,.val t104),(10,.val t3),(11,.val t3)],[]⟩ (.seq .leaf (.seq (.cond .leaf .leaf) (.join ⟨[(0,.val t104),(3,.val t3),(9,.val t104),(10,.val t3),(11,.val t3)],[]⟩ (.block (.seq .leaf (.seq .leaf (.seq .leaf (.cond .leaf .leaf))))) .leaf)))))) (.seq .leaf (.join ⟨[(6,.own 50240)],[(50240,.arr t3)]⟩ (.seq .leaf (.block (.loop ⟨[(6,.own 50240),(25,.val t104),(26,.val t3),(27,.val t3)],[(50240,.arr t3)]⟩ (.seq .leaf (.seq (.cond .leaf .leaf) (.seq (.block (.seq .leaf .leaf)) .leaf)))))) (.seq .leaf .leaf))))))
theorem l_kconcat (x):funIO noU (tabT tab) noPhi Psi_kconcat Tryz.f79 b_kconcat ann_kconcat ⟨[(0,.val t104)],[]⟩ ⟨[(0,.own 50240)],[(50240,.arr t3)]⟩ [none] x=S_slices_ConcatI shGrowI x:=by kernel_rfl
theorem io_concat:IoSpec Tryz.prog noU 79 ioc_concat:=
 fnIO_ok mixOk tabOk noPhi_ok Psi_kconcat_ok Tryz.func79 b_kconcat_ok (by kernel_rfl) fun x=>M.le_trans (M.le_of_eq (l_kconcat x)) (sConcatI x)
def b_kcompact:Code:=Tryz.f81.body.getD .skip
theorem b_kcompact_ok:Tryz.f81.body=some b_kcompact:=by kernel_rfl
def Psi_kcompact (k:Nat):Option KC:=none
theorem Psi_kcompact_ok:PsiOk Tryz.prog noU Psi_kcompact:=by
 intro k c h
 unfold Psi_kcompact at h
 cases h
def ioc_compact:IOC:=⟨⟨[(0,.own 200001)],[(200001,.arr t3)]⟩,⟨[(0,.sub 200001)],[(200001,.arr t3)]⟩,[none],1,shCompactI⟩
def ann_kcompact:Ann:=(.seq .leaf (.seq (.seq .leaf (.cond (.seq .leaf .leaf) .leaf)) (.join ⟨[(0,.own 200001)],[(200001,.arr t3)]⟩ (.seq .leaf (.block (.loop ⟨[(0,.own 200001),(3,.val t3)],[(200001,.arr t3)]⟩ (.seq (.seq .leaf (.cond .leaf .leaf)) (.join ⟨[(0,.own 200001),(3,.val t3)],[(200001,.arr t3)]⟩ (.block (.seq .leaf (.cond (.seq .leaf (.join ⟨[(0,.own 200001),(3,.val t3)],[(200001,.arr t3)]⟩ (.seq .leaf (.block (.loop ⟨[(0,.own 200001),(3,.val t3),(4,.sub 200001),(5,.val t3)],[(200001,.arr t3)]⟩ (.seq (.seq .leaf (.cond .leaf .leaf)) (.join ⟨[(0,.own 200001),(3,.val t3),(4,.sub 200001),(5,.val t3)],[(200001,.arr t3)]⟩ (.block (.seq .leaf (.cond (.seq .leaf .leaf) .leaf))) .leaf))))) (.seq .leaf (.seq .leaf .leaf)))) .leaf))) .leaf))))) (.seq .leaf .leaf))))
theorem l_kcompact (x):funIO noU (tabT tab) noPhi Psi_kcompact Tryz.f81 b_kcompact ann_kcompact ⟨[(0,.own 200001)],[(200001,.arr t3)]⟩ ⟨[(0,.sub 200001)],[(200001,.arr t3)]⟩ [none] x=S_slices_CompactI  x:=by kernel_rfl
theorem io_compact:IoSpec Tryz.prog noU 81 ioc_compact:=
 fnIO_ok mixOk tabOk noPhi_ok Psi_kcompact_ok Tryz.func81 b_kcompact_ok (by kernel_rfl) fun x=>M.le_trans (M.le_of_eq (l_kcompact x)) (sCompactI x)
def b_k82:Code:=Tryz.f82.body.getD .skip
theorem b_k82_ok:Tryz.f82.body=some b_k82:=by kernel_rfl
def Psi_k82 (k:Nat):Option KC:=none
theorem Psi_k82_ok:PsiOk Tryz.prog noU Psi_k82:=by
 intro k c h
 unfold Psi_k82 at h
 cases h
def ann_k82:Ann:=(.seq .leaf (.seq (.seq .leaf (.cond (.seq .leaf .leaf) .leaf)) (.seq .leaf .leaf)))
theorem l_k82 (x):funI noU (tabT tab) noPhi Psi_k82 Tryz.f82 b_k82 ann_k82 t22 t22 x=S_slices_Clone_api_Span_api_Span  x:=by kernel_rfl
theorem spec_k82:FnSpec Tryz.prog 82 t22 t22 fcCloneSpan.sh:=
 fn_ok mixOk tabOk noU_ok noPhi_ok Psi_k82_ok Tryz.func82 b_k82_ok (by kernel_rfl) fun x=>M.le_trans (M.le_of_eq (l_k82 x)) (sCloneSpan x)
def b_k38:Code:=Tryz.f38.body.getD .skip
theorem b_k38_ok:Tryz.f38.body=some b_k38:=by kernel_rfl
def Psi_k38 (k:Nat):Option KC:=if k=26 then some (.sc ⟨t28,t34,fcCheck.sh,true⟩) else if k=63 then some (.sc ⟨t23,(.prod t23 t4),fcOnceH.sh,true⟩) else if k=78 then some (.sc ⟨t136,t23,fcConcatS.sh,true⟩) else if k=79 then some (.io ioc_concat) else if k=80 then some (.io ioc_sort) else if k=81 then some (.io ioc_compact) else if k=82 then some (.sc ⟨t22,t22,fcCloneSpan.sh,true⟩) else none
theorem Psi_k38_ok:PsiOk Tryz.prog noU Psi_k38:=by
 intro k c h
 unfold Psi_k38 at h
 split at h
 ·cases h;subst_vars;exact ⟨spec_k26,fun _ _=>M.det_det⟩
 split at h
 ·cases h;subst_vars;exact ⟨spec_k63,fun _ _=>M.det_det⟩
 split at h
 ·cases h;subst_vars;exact ⟨spec_k78,fun _ _=>M.det_det⟩
 split at h
 ·cases h;subst_vars;exact io_concat
 split at h
 ·cases h;subst_vars;exact io_sort
 split at h
 ·cases h;subst_vars;exact io_compact
 split at h
 ·cases h;subst_vars;exact ⟨spec_k82,fun _ _=>M.det_det⟩
 cases h
def ann_k38:Ann:=(.seq .leaf (.seq (.seq .leaf (.seq .leaf (.cond (.seq .leaf .leaf) .leaf))) (.seq .leaf (.seq .leaf (.seq (.seq .leaf (.seq .leaf (.cond (.seq .leaf .leaf) .leaf))) (.seq .leaf (.seq (.seq .leaf (.cond (.seq .leaf .leaf) .leaf)) (.seq .leaf (.seq .leaf (.seq .leaf (.seq (.seq .leaf (.cond (.seq .leaf .leaf) .leaf)) (.seq .leaf (.seq .leaf .leaf)))))))))))))
theorem l_k38 (x):funI noU (tabT tab) noPhi Psi_k38 Tryz.f38 b_k38 ann_k38 (.prod t28 (.prod t23 t24)) (.prod t28 t34) x=S_hire_Merge fcCheck.sh fcOnceH.sh fcConcatS.sh shConcatI shSortI shCompactI fcCloneSpan.sh x:=by kernel_rfl
theorem spec_k38:FnSpec Tryz.prog 38 (.prod t28 (.prod t23 t24)) (.prod t28 t34) fcMerge.sh:=
 fn_ok mixOk tabOk noU_ok noPhi_ok Psi_k38_ok Tryz.func38 b_k38_ok (by kernel_rfl) fun x=>M.le_trans (M.le_of_eq (l_k38 x)) (sHMerge x)
def b_k40:Code:=Tryz.f40.body.getD .skip
theorem b_k40_ok:Tryz.f40.body=some b_k40:=by kernel_rfl
def Psi_k40 (k:Nat):Option KC:=if k=14 then some (.sc ⟨(.prod t28 (.prod t3 t3)),(.prod t24 t34),fcWhere.sh,true⟩) else if k=17 then some (.sc ⟨(.prod t24 t24),t4,fcSameInts.sh,true⟩) else if k=18 then some (.sc ⟨(.prod t28 t3),(.prod t42 t34),fcFee.sh,true⟩) else if k=24 then some (.sc ⟨(.prod t28 t3),(.prod t42 t34),fcOwes.sh,true⟩) else none
theorem Psi_k40_ok:PsiOk Tryz.prog noU Psi_k40:=by
 intro k c h
 unfold Psi_k40 at h
 split at h
 ·cases h;subst_vars;exact ⟨spec_k14,fun _ _=>M.det_det⟩
 split at h
 ·cases h;subst_vars;exact ⟨spec_k17,fun _ _=>M.det_det⟩
 split at h
 ·cases h;subst_vars;exact ⟨spec_k18,fun _ _=>M.det_det⟩
 split at h
 ·cases h;subst_vars;exact ⟨spec_k24,fun _ _=>M.det_det⟩
 cases h
def ann_k40:Ann:=(.seq .leaf (.seq .leaf (.seq .leaf (.seq .leaf (.seq .leaf (.seq .leaf (.seq .leaf (.seq .leaf .leaf))))))))
theorem l_k40 (x):funI noU (tabT tab) noPhi Psi_k40 Tryz.f40 b_k40 ann_k40 (.prod t28 (.prod t28 t30)) t4 x=S_law09_alike fcWhere.sh fcSameInts.sh fcFee.sh fcOwes.sh x:=by kernel_rfl
theorem spec_k40:FnSpec Tryz.prog 40 (.prod t28 (.prod t28 t30)) t4 fcAlike.sh:=
 fn_ok mixOk tabOk noU_ok noPhi_ok Psi_k40_ok Tryz.func40 b_k40_ok (by kernel_rfl) fun x=>M.le_trans (M.le_of_eq (l_k40 x)) (sAlike x)
def b_k10:Code:=Tryz.f10.body.getD .skip
theorem b_k10_ok:Tryz.f10.body=some b_k10:=by kernel_rfl
def Psi_k10 (k:Nat):Option KC:=if k=11 then some (.sc ⟨t28,t4,fcReady.sh,true⟩) else if k=13 then some (.sc ⟨.unit,t4,fcWorks.sh,true⟩) else if k=15 then some (.sc ⟨t28,t28,fcCopy.sh,true⟩) else if k=38 then some (.sc ⟨(.prod t28 (.prod t23 t24)),(.prod t28 t34),fcMerge.sh,true⟩) else if k=40 then some (.sc ⟨(.prod t28 (.prod t28 t30)),t4,fcAlike.sh,true⟩) else none
theorem Psi_k10_ok:PsiOk Tryz.prog noU Psi_k10:=by
 intro k c h
 unfold Psi_k10 at h
 split at h
 ·cases h;subst_vars;exact ⟨spec_k11,fun _ _=>M.det_det⟩
 split at h
 ·cases h;subst_vars;exact ⟨spec_k13,fun _ _=>M.det_det⟩
 split at h
 ·cases h;subst_vars;exact ⟨spec_k15,fun _ _=>M.det_det⟩
 split at h
 ·cases h;subst_vars;exact ⟨spec_k38,fun _ _=>M.det_det⟩
 split at h
 ·cases h;subst_vars;exact ⟨spec_k40,fun _ _=>M.det_det⟩
 cases h
def ann_k10:Ann:=(.seq .leaf (.seq (.seq .leaf (.cond (.seq .leaf .leaf) .leaf)) (.seq .leaf (.seq .leaf (.join ⟨[(3,.loc 3 0),(4,.loc 4 0),(5,.loc 5 0),(7,.loc 7 0)],[(3,.whole t28),(4,.whole t42),(5,.whole t30),(7,.cells t28 [.val t22,.own 75,.val t24,.val t22,.val t3,.val t3,.val t3,.val t3,.val t3,.val t3,.val t3]),(75,.arr t39)]⟩ (.seq .leaf (.block (.loop ⟨[(3,.loc 3 0),(4,.loc 4 0),(5,.loc 5 0),(7,.loc 7 0),(8,.val t3)],[(3,.whole t28),(4,.whole t42),(5,.whole t30),(7,.cells t28 [.val t22,.own 75,.val t24,.val t22,.val t3,.val t3,.val t3,.val t3,.val t3,.val t3,.val t3]),(75,.arr t39)]⟩ (.seq (.seq .leaf (.cond .leaf .leaf)) (.seq (.block .leaf) .leaf))))) (.seq .leaf (.seq .leaf (.seq .leaf (.seq (.seq .leaf (.cond (.seq .leaf .leaf) .leaf)) (.seq .leaf .leaf))))))))))
theorem l_k10 (x):funI noU (tabT tab) noPhi Psi_k10 Tryz.f10 b_k10 ann_k10 (.prod t28 (.prod t67 t30)) t4 x=S_law09_HireOrder fcReady.sh fcWorks.sh fcCopy.sh fcMerge.sh fcAlike.sh x:=by kernel_rfl
theorem spec_k10:FnSpec Tryz.prog 10 (.prod t28 (.prod t67 t30)) t4 (fun x=>S_law09_HireOrder fcReady.sh fcWorks.sh fcCopy.sh fcMerge.sh fcAlike.sh x):=
 fn_ok mixOk tabOk noU_ok noPhi_ok Psi_k10_ok Tryz.func10 b_k10_ok (by kernel_rfl) fun x=>M.le_of_eq (l_k10 x)
end Go.Fer.Sk
