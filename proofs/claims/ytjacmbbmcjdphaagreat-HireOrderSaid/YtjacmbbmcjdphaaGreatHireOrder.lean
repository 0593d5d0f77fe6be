/- HireOrder returns true for every input, and leaves its arguments as they were. No condition. -/
import Derived.Test.YtjacmbbmcjdphaaGreatHireOrderF
import Derived.Test.YtjacmbbmcjdphaaGreatRows
import Derived.WalkKit
import Derived.ProofKit
import Derived.OpenShut
namespace Go.Proofs.YtjacmbbmcjdphaaGreat.HireOrderProof
open Go.ChangeShapes Go.WideShapes Go.ChangeAt Go.RowKit Go.Fer Go.Fer.Sk
set_option linter.unusedVariables false
set_option maxRecDepth 100000

theorem own : ownKnob Tryz.prog.godebug = none := by kernel_rfl
theorem ret_eq {α : Type} {m : M α} {v : α} {p : α → Prop} (h : m = M.pure v) (hp : p v) : M.Ret m p := by rw [h]; exact M.ret_pure.2 hp
theorem small_of {c : Ctr} (h : Ty.Ok t28 c) : smallC c := by
  obtain ⟨h1, h2, h3, h4, _⟩ := h
  exact ⟨h1.1, h2.1, h3.1, h4.1⟩
theorem lifted (os : Os) (started : os.Started) (H : Type) (enc : TypeId × Value → H) :
    ReturnsInHanded {} Tryz.checked os 10 .any (Rows.hireOrderSpec.pre6 enc Tryz.prog Tryz.f10 Rows.hireOrderRow.domain false) (Rows.hireOrderSpec.post enc Tryz.prog Tryz.f10 false true false false) := by
  refine returnsInHanded_of_change (C := Tryz.checked) own started (by kernel_rfl) Tryz.func10
    (ChangeSpec.witness6 (enc := enc) (C := Tryz.checked) false ⟨#[], #[.agg #[.slice none 0 0, .slice none 0 0, .slice none 0 0, .slice none 0 0, .int .i64 0, .int .i64 0, .int .i64 0, .int .i64 0, .int .i64 0, .int .i64 0, .int .i64 0], .agg #[.int .i64 0, .int .i64 0], .agg #[.int .i64 0, .int .i64 0, .int .i64 0, .int .i64 0, .int .i64 0]], []⟩ 8 (by kernel_rfl) (by kernel_rfl) (by kernel_rfl) (by kernel_rfl)) ?_
  intro W base args ds gs before hval0 hW hcnd _
  exact law_contract (ts := .prod t28 (.prod t67 t30)) (rt := 4) (by kernel_rfl) spec_k10 (fun x hx => ret_eq (lawOrder x (small_of hx.1)) rfl) (by kernel_rfl) (by kernel_rfl) rfl (by kernel_rfl) rfl (fun H ds h => by
    obtain ⟨d1, l1, rfl⟩ : ∃ d l, ds = d :: l := by cases ds with | nil => simp [Tryz.f10] at h | cons d l => exact ⟨d, l, rfl⟩
    obtain ⟨d2, l2, rfl⟩ : ∃ d l, l1 = d :: l := by cases l1 with | nil => simp [Tryz.f10] at h | cons d l => exact ⟨d, l, rfl⟩
    obtain ⟨d3, l3, rfl⟩ : ∃ d l, l2 = d :: l := by cases l2 with | nil => simp [Tryz.f10] at h | cons d l => exact ⟨d, l, rfl⟩
    have : l3 = [] := by cases l3 with | nil => rfl | cons d l => simp [Tryz.f10] at h
    subst this
    rfl) hval0 hW
theorem over : Rows.hireOrderRow.holds Tryz.pinned (OpenSpec.ofChange Rows.hireOrderSpec) :=
  OpenClaim.holds_of_wide 10 Tryz.f10 rfl rfl rfl rfl rfl rfl rfl ⟨rfl, rfl, rfl, rfl, rfl⟩ rfl rfl rfl rfl rfl (by kernel_rfl) Tryz.func10 (by kernel_rfl)
    (of_decide_eq_true (by kernel_rfl)) (by unfold Func.isWrapper; first | (rw [if_pos (by decide +kernel)]; kernel_rfl) | (rw [if_neg (by decide +kernel)]; exact ⟨rfl, rfl⟩))
    (fun os started H enc _ => lifted os started H enc)
theorem proved : Rows.HireOrderSaid := over
end Go.Proofs.YtjacmbbmcjdphaaGreat.HireOrderProof
