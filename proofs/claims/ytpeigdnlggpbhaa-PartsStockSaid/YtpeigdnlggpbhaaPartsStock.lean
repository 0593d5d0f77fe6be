/- PartsStock returns true for every input, and leaves its arguments as they were. No condition. -/
import Derived.Test.YtpeigdnlggpbhaaPartsStockE
import Derived.Test.YtpeigdnlggpbhaaRows
import Derived.WalkKit
import Derived.ProofKit
import Derived.OpenShut
namespace Go.Proofs.Ytpeigdnlggpbhaa.PartsStockProof
open Go.ChangeShapes Go.WideShapes Go.ChangeAt Go.RowKit Go.Fer Go.Fer.Sk
set_option linter.unusedVariables false
set_option maxRecDepth 100000

theorem own : ownKnob Try.prog.godebug = none := by kernel_rfl
theorem small_of {w : Wsh} (h : Ty.Ok t26 w) : smallW w := by
  obtain ⟨h1, h2, _, h4⟩ := h
  exact ⟨h1.1, h2.1, h4.1, fun m hm => ⟨(h2.2 m hm).1, fun s hs => ((h2.2 m hm).2 s hs).2.1.1⟩⟩
theorem lifted (os : Os) (started : os.Started) (H : Type) (enc : TypeId × Value → H) :
    ReturnsInHanded {} Try.checked os 4 .any (Rows.partsStockSpec.pre6 enc Try.prog Try.f4 Rows.partsStockRow.domain false) (Rows.partsStockSpec.post enc Try.prog Try.f4 false true false false) := by
  refine returnsInHanded_of_change (C := Try.checked) own started (by kernel_rfl) Try.func4
    (ChangeSpec.witness6 (enc := enc) (C := Try.checked) false ⟨#[], #[.agg #[.slice none 0 0, .slice none 0 0, .int .i64 0, .slice none 0 0], .agg #[.slice none 0 0, .slice none 0 0], .agg #[.int .i64 0, .int .i64 0, .int .i64 0, .int .i64 0]], []⟩ 8 (by kernel_rfl) (by kernel_rfl) (by kernel_rfl) (by kernel_rfl)) ?_
  intro W base args ds gs before hval0 hW hcnd _
  exact law_contract (ts := .prod t26 (.prod t44 t48)) (rt := 4) (by kernel_rfl) spec_k4 (fun x hx => M.ret_of_eq (lawStock x (small_of hx.1) hx.2.1.1.1 hx.2.1.2.1) rfl) (by kernel_rfl) (by kernel_rfl) rfl (by kernel_rfl) rfl (fun H ds h => by
    obtain ⟨d1, l1, rfl⟩ : ∃ d l, ds = d :: l := by cases ds with | nil => simp [Try.f4] at h | cons d l => exact ⟨d, l, rfl⟩
    obtain ⟨d2, l2, rfl⟩ : ∃ d l, l1 = d :: l := by cases l1 with | nil => simp [Try.f4] at h | cons d l => exact ⟨d, l, rfl⟩
    obtain ⟨d3, l3, rfl⟩ : ∃ d l, l2 = d :: l := by cases l2 with | nil => simp [Try.f4] at h | cons d l => exact ⟨d, l, rfl⟩
    have : l3 = [] := by cases l3 with | nil => rfl | cons d l => simp [Try.f4] at h
    subst this
    rfl) hval0 hW
theorem over : Rows.partsStockRow.holds Try.pinned (OpenSpec.ofChange Rows.partsStockSpec) :=
  OpenClaim.holds_of_wide 4 Try.f4 rfl rfl rfl rfl rfl rfl rfl ⟨rfl, rfl, rfl, rfl, rfl⟩ rfl rfl rfl rfl rfl (by kernel_rfl) Try.func4 (by kernel_rfl)
    (of_decide_eq_true (by kernel_rfl)) (by unfold Func.isWrapper; first | (rw [if_pos (by decide +kernel)]; kernel_rfl) | (rw [if_neg (by decide +kernel)]; exact ⟨rfl, rfl⟩))
    (fun os started H enc _ => lifted os started H enc)
theorem proved : Rows.PartsStockSaid := over
end Go.Proofs.Ytpeigdnlggpbhaa.PartsStockProof
