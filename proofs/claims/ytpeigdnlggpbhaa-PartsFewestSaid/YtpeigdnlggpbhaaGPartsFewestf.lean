/- Part 6 of the frame of the proof: shallow programs of Go functions, and what they compute. No condition. -/
import Derived.Test.YtpeigdnlggpbhaaFe
namespace Go.Fer
open M (Step)
set_option linter.unusedVariables false
set_option linter.unusedSimpArgs false
theorem ascV_iff {l : List Int} : ascV l = true ↔ l.Pairwise (· < ·) := by
  unfold ascV
  simp only [List.all_eq_true, List.mem_range, decide_eq_true_eq]
  constructor
  · intro h
    have key : ∀ (d i : Nat) (hj : i + (d + 1) < l.length), l[i] < l[i + (d + 1)] := by
      intro d
      induction d with
      | zero =>
        intro i hj
        have := h i (by omega)
        rw [List.getD_eq_getElem?_getD, List.getD_eq_getElem?_getD, List.getElem?_eq_getElem (by omega), List.getElem?_eq_getElem (by omega)] at this
        exact this
      | succ d ih =>
        intro i hj
        have h1 := ih i (by omega)
        have h2 := h (i + (d + 1)) (by omega)
        rw [List.getD_eq_getElem?_getD, List.getD_eq_getElem?_getD, List.getElem?_eq_getElem (by omega), List.getElem?_eq_getElem (by omega)] at h2
        exact Int.lt_trans h1 h2
    rw [List.pairwise_iff_getElem]
    intro i j hi hj hij
    obtain ⟨d, rfl⟩ := Nat.exists_eq_add_of_le (Nat.succ_le_of_lt hij)
    have := key d i (by omega)
    simpa [Nat.add_assoc, Nat.add_comm, Nat.add_left_comm] using this
  · intro h i hi
    rw [List.pairwise_iff_getElem] at h
    have := h i (i + 1) (by omega) (by omega) (by omega)
    rw [List.getD_eq_getElem?_getD, List.getD_eq_getElem?_getD, List.getElem?_eq_getElem (by omega), List.getElem?_eq_getElem (by omega)]
    exact this
theorem asc_filter (p : Nat → Bool) (n : Nat) : (((List.range n).filter p).map fun (i : Nat) => (i : Int)).Pairwise (· < ·) :=
  List.Pairwise.map _ (fun a b (h : a < b) => by omega) (List.pairwise_lt_range.filter p)
theorem isListV_bitsL (w : Wsh) (b : Nat) : isListV w (bitsL w.1.length b) = true := by
  unfold isListV
  rw [Bool.and_eq_true]
  refine ⟨?_, ascV_iff.2 (asc_filter _ _)⟩
  rw [List.all_eq_true]
  exact fun i hi => isSpareV_iff.2 (bitsL_mem hi)
theorem keep_ok {w : Wsh} (h : smallW w) (he : (fewestR w).2 = 0) : goodW w ∧ knownV w true = 0 ∧ ((keepV w).1.length : Int) = (fewestR w).1 ∧ (keepV w).2 = 0 ∧ isListV w (keepV w).1 = true ∧ mendsAllV w (keepV w).1 = true ∧ (keepV w).1.length ≤ 10 := by
  rw [fewestR_2 h] at he
  obtain ⟨hk, hne, h1⟩ := fewV_1 he
  have hw := good_of_known h hk
  have hhd := wV_head hw.2
  obtain ⟨b, hb, h2, h3, h4, h5⟩ := few_head hw hne
  have hr2 := fewestR_2 h
  have hkeep : keepV w = ((listsV w).getD 0 [], 0) := by unfold keepV; rw [hr2, he]; simp
  have hr : fewestR w = (firstLen (listsV w), 0) := by
    unfold fewestR
    have hl : 0 < (fewL w).length := List.length_pos_iff.2 hne
    rw [if_neg (by simp [hk]), if_neg (by omega)]
  refine ⟨hw, hk, ?_, by rw [hkeep], ?_, ?_, ?_⟩
  · rw [hkeep, hr]; rfl
  · rw [hkeep, h3]; exact isListV_bitsL w b
  · rw [hkeep, h3]; exact h4
  · rw [hkeep, h3]; exact Nat.le_trans (bitsL_len _ _) hhd.1
theorem keep_err {w : Wsh} (he : (fewestR w).2 ≠ 0) : keepV w = ([], (fewestR w).2) := by unfold keepV; rw [if_pos he]
theorem neededR_len {w : Wsh} : (neededR w).1.length ≤ w.1.length := by
  unfold neededR
  split
  · simp
  · rw [List.length_map]
    exact Nat.le_trans (List.length_filter_le _ _) (by simp)
theorem lawFewest (w : Wsh) (h : smallW w) :
    S_law07_PartsFewest fcWorks.sh fcPFewest.sh fcPNeeded.sh fcCopy.sh fcSameInts.sh fcFar.sh fcFewest.sh fcNeeded.sh fcKeep.sh fcMendsAll.sh w = M.pure true := by
  unfold S_law07_PartsFewest
  simp only [FC.sh, M.bind_det, M.req_true h, M.req_True]
  cases hf : farV w with
  | true => simp
  | false =>
    have hc := far_copy hf
    have hnl : (neededR w).1.length < 2 ^ 63 ∧ (neededR w).1.length < 2 ^ 63 := by have := neededR_len (w := w); have := h.1; omega
    have hn2 : (neededR w).2 = (fewestR w).2 := by
      unfold neededR
      split
      · rfl
      · rename_i hh; exact (Decidable.not_not.1 hh).symm
    simp only [Bool.false_eq_true, if_false]
    rw [M.req_true (by exact hc)]
    simp only [M.req_true h, M.gdo_det, ne_eq, not_true, decide_false, Bool.or_self, Bool.not_false, true_implies, M.bind_det, if_true, decide_true, Bool.not_true, Bool.false_or, Bool.or_false]
    rw [M.req_true (by exact hnl)]
    by_cases he : (fewestR w).2 = 0
    · obtain ⟨hw, hk, e1, e2, e3, e4, e5⟩ := keep_ok h he
      have hml : goodW w ∧ (keepV w).1.length < 2 ^ 63 := ⟨hw, by omega⟩
      have h40 : decide (Int.ofNat (keepV w).1.length > 40) = false := by simp only [ofNat_def, decide_eq_false_iff_not]; omega
      simp only [ofNat_def] at h40 ⊢
      simp only [he, e2, h40, not_true, decide_false, Bool.or_self, Bool.false_eq_true, if_false, e1, decide_true, if_true, true_implies, e3, e4, Bool.and_self, M.req_True]
      rw [M.req_true (by exact hml)]
      have h41 : ¬ (40 < (fewestR w).1) := by omega
      simp [h41]
    · have hkp := keep_err he
      simp only [hkp, List.length_nil, ofNat_def]
      simp [he]
end Go.Fer
namespace Go.Fer.Sk
open Go.Proofs
open M (Step)
set_option maxRecDepth 100000
set_option linter.unusedVariables false
set_option linter.unusedSimpArgs false
noncomputable def b_k6 : Code := Try.f6.body.getD .skip
theorem b_k6_ok : Try.f6.body = some b_k6 := by kernel_rfl
noncomputable def Psi_k6 (k : Nat) : Option KC := if k = 14 then some (.sc ⟨.unit, t4, fcWorks.sh, true⟩) else if k = 15 then some (.sc ⟨t26, (.prod t3 t33), fcPFewest.sh, true⟩) else if k = 16 then some (.sc ⟨t26, (.prod t36 t33), fcPNeeded.sh, true⟩) else if k = 17 then some (.sc ⟨t26, t26, fcCopy.sh, true⟩) else if k = 23 then some (.sc ⟨(.prod t36 t36), t4, fcSameInts.sh, true⟩) else if k = 24 then some (.sc ⟨t26, t4, fcFar.sh, true⟩) else if k = 32 then some (.sc ⟨t26, (.prod t3 t33), fcFewest.sh, true⟩) else if k = 33 then some (.sc ⟨t26, (.prod t36 t33), fcNeeded.sh, true⟩) else if k = 34 then some (.sc ⟨t26, (.prod t36 t33), fcKeep.sh, true⟩) else if k = 35 then some (.sc ⟨(.prod t26 t36), t4, fcMendsAll.sh, true⟩) else none
theorem Psi_k6_ok : PsiOk Try.prog noU Psi_k6 := by
  intro k c h
  unfold Psi_k6 at h
  split at h
  · cases h; subst_vars; exact ⟨spec_k14, fun _ _ => M.det_det⟩
  split at h
  · cases h; subst_vars; exact ⟨spec_k15, fun _ _ => M.det_det⟩
  split at h
  · cases h; subst_vars; exact ⟨spec_k16, fun _ _ => M.det_det⟩
  split at h
  · cases h; subst_vars; exact ⟨spec_k17, fun _ _ => M.det_det⟩
  split at h
  · cases h; subst_vars; exact ⟨spec_k23, fun _ _ => M.det_det⟩
  split at h
  · cases h; subst_vars; exact ⟨spec_k24, fun _ _ => M.det_det⟩
  split at h
  · cases h; subst_vars; exact ⟨spec_k32, fun _ _ => M.det_det⟩
  split at h
  · cases h; subst_vars; exact ⟨spec_k33, fun _ _ => M.det_det⟩
  split at h
  · cases h; subst_vars; exact ⟨spec_k34, fun _ _ => M.det_det⟩
  split at h
  · cases h; subst_vars; exact ⟨spec_k35, fun _ _ => M.det_det⟩
  cases h
def ann_k6 : Ann := (.seq .leaf (.seq (.seq .leaf (.cond (.seq .leaf .leaf) .leaf)) (.seq .leaf (.seq .leaf (.seq .leaf (.seq .leaf (.seq .leaf (.seq .leaf (.seq (.seq .leaf (.cond (.seq .leaf .leaf) .leaf)) (.seq (.seq .leaf (.cond (.seq .leaf .leaf) .leaf)) (.seq .leaf .leaf)))))))))))
theorem l_k6 (x) : funI noU (tabT tab) noPhi Psi_k6 Try.f6 b_k6 ann_k6 t26 t4 x = S_law07_PartsFewest fcWorks.sh fcPFewest.sh fcPNeeded.sh fcCopy.sh fcSameInts.sh fcFar.sh fcFewest.sh fcNeeded.sh fcKeep.sh fcMendsAll.sh x := by kernel_rfl
theorem spec_k6 : FnSpec Try.prog 6 t26 t4 (fun x => S_law07_PartsFewest fcWorks.sh fcPFewest.sh fcPNeeded.sh fcCopy.sh fcSameInts.sh fcFar.sh fcFewest.sh fcNeeded.sh fcKeep.sh fcMendsAll.sh x) :=
  fn_ok mixOk tabOk noU_ok noPhi_ok Psi_k6_ok Try.func6 b_k6_ok (by kernel_rfl) fun x => M.le_of_eq (l_k6 x)
end Go.Fer.Sk
