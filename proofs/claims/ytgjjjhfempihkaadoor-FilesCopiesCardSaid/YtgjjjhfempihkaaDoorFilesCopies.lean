/- FilesCopies returns true for every input, and leaves its arguments as they were; the row lists variables, tied by the card. No condition. -/
import Derived.Test.YtgjjjhfempihkaaDoorFilesCopiesF
import Derived.Test.YtgjjjhfempihkaaDoorRows
import Derived.Test.YtgjjjhfempihkaaDoorTie
import Derived.Test.YtgjjjhfempihkaaDoorCards
import Derived.WalkKit
import Derived.ProofKit
import Derived.OpenShut
import Derived.LaidMore
import Derived.Lay
import Derived.SevenTiedAt
import Derived.Stop.Joined
namespace Go.Proofs.YtgjjjhfempihkaaDoor.FilesCopiesProof
open Go.ChangeShapes Go.WideShapes Go.ChangeAt Go.RowKit Go.Fer Go.Fer.Sk
set_option linter.unusedVariables false
set_option maxRecDepth 100000

theorem own : ownKnob Tryd.prog.godebug = none := by kernel_rfl
theorem ret_eq {α : Type} {m : M α} {v : α} {p : α → Prop} (h : m = M.pure v) (hp : p v) : M.Ret m p := by rw [h]; exact M.ret_pure.2 hp
theorem lifted (os : Os) (started : os.Started) (H : Type) (enc : TypeId × Value → H) :
    ReturnsInHanded {} Tryd.checked os 8 .any (fun w args => (Rows.filesCopiesSpec.pre enc Tryd.prog Tryd.f8 Rows.filesCopiesRow.domain false w args ∧ laidMetH Tryd.prog Rows.filesCopiesRow.laid w) ∧ sizedMet enc Tryd.prog Tryd.f8 (OpenSpec.ofChange Rows.filesCopiesSpec) false w args)
      (Rows.filesCopiesSpec.post enc Tryd.prog Tryd.f8 false true false false) := by
  refine handed_shaped (C := Tryd.checked) (X := fun w _ => laidMetH Tryd.prog Rows.filesCopiesRow.laid w) (fun _ _ _ hh h => h.of_heap hh) own started (by kernel_rfl) Tryd.func8
    (ChangeSpec.witness_shaped (enc := enc) (C := Tryd.checked) (os := os) (X := fun w _ => laidMetH Tryd.prog Rows.filesCopiesRow.laid w) false (World.laidAll Tryd.prog os Rows.filesCopiesRow.laid) #[.slice none 0 0, .agg #[.slice none 0 0, .slice none 0 0, .bool false]] 8 (World.laidAll_os _ _ _)
      (World.shaped_of_ZipB (by kernel_rfl) (by kernel_rfl)) (by kernel_rfl) (by kernel_rfl) (by kernel_rfl)
      (by rw [MakeChecks.laidMetH_plain _ _ _ (by kernel_rfl)]; exact laidMet_laidAll _ (by kernel_rfl) (by kernel_rfl))) ?_
  intro W base args ds gs before hval0 hW hsh
  exact law_contract (ts := .prod t22 t48) (rt := 4) (by kernel_rfl) spec_k8 (fun x hx => ret_eq (lawCopies x hx.1.1) rfl) (by kernel_rfl) (by kernel_rfl) rfl (by kernel_rfl) rfl (fun H ds h => by
    obtain ⟨d1, l1, rfl⟩ : ∃ d l, ds = d :: l := by cases ds with | nil => simp [Tryd.f8] at h | cons d l => exact ⟨d, l, rfl⟩
    obtain ⟨d2, l2, rfl⟩ : ∃ d l, l1 = d :: l := by cases l1 with | nil => simp [Tryd.f8] at h | cons d l => exact ⟨d, l, rfl⟩
    have : l2 = [] := by cases l2 with | nil => rfl | cons d l => simp [Tryd.f8] at h
    subst this
    rfl) hval0 hW (glob_ok hsh)
theorem over : Rows.FilesCopiesSaid :=
  OpenClaim.holds_of_wide 8 Tryd.f8 rfl rfl rfl rfl rfl rfl rfl ⟨rfl, rfl, rfl, rfl, rfl⟩ rfl rfl rfl rfl rfl (by kernel_rfl) Tryd.func8 (by kernel_rfl)
    (of_decide_eq_true (by kernel_rfl)) (by unfold Func.isWrapper; first | (rw [if_pos (by decide +kernel)]; kernel_rfl) | (rw [if_neg (by decide +kernel)]; exact ⟨rfl, rfl⟩))
    (fun os started H enc _ => lifted os started H enc)
theorem proved : Rows.FilesCopiesCardSaid :=
  Claim7.holds_tied_plain_at .later [] [.data, .pinned] true Rows.filesCopiesCard.stood.harness false over (fun _ h => by cases h) (by kernel_rfl) (fun _ h => by cases h) filesCopies_row_tie rfl ⟨rfl, rfl⟩ (by kernel_rfl) rfl
    (fun f fn hf hfn => by
      obtain rfl : f = 8 := Option.some.inj ((show Tryd.prog.funcNamed Rows.filesCopiesRow.func = some 8 by kernel_rfl).symm.trans hf) |>.symm
      obtain rfl : fn = Tryd.f8 := (Option.some.inj (Tryd.func8.symm.trans hfn)).symm
      exact ⟨by kernel_rfl, fun j t ht => by
        rw [Tryd.params8] at ht
        have hm : t ∈ [22, 48] := by simpa using Array.mem_of_getElem? ht
        have hall : ([22, 48].all fun u => !Tryd.prog.wantsStandIn u) = true := by kernel_rfl
        exact (show Tryd.prog.wantsStandIn t = false by simpa using List.all_eq_true.1 hall t hm)⟩)
    (by kernel_rfl)
end Go.Proofs.YtgjjjhfempihkaaDoor.FilesCopiesProof
