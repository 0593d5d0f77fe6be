/- OrdersLost returns true for every input, and leaves its arguments as they were. No condition. -/
import Derived.Test.YtlafippnchnleaaGreatOrdersLostF
import Derived.Test.YtlafippnchnleaaGreatRows
import Derived.WalkKit
import Derived.ProofKit
import Derived.OpenShut
namespace Go.Proofs.YtlafippnchnleaaGreat.OrdersLostProof
open Go.ChangeShapes Go.WideShapes Go.ChangeAt Go.RowKit Go.Fer Go.Fer.Sk
set_option linter.unusedVariables false
set_option maxRecDepth 100000

theorem own : ownKnob Tryz.prog.godebug = none := by kernel_rfl
theorem smallW_of {w : Wsh} (h : Ty.Ok t26 w) : smallW w := by
  obtain ⟨h1, h2, _, h4⟩ := h
  exact ⟨h1.1, h2.1, h4.1, fun m hm => ⟨(h2.2 m hm).1, fun s hs => ((h2.2 m hm).2 s hs).2.1.1⟩⟩
theorem small_of {s : Shop} (h : Ty.Ok t32 s) : smallS s := by
  obtain ⟨h0, h1, h2, h3, h4, _⟩ := h
  exact ⟨smallW_of h0, h1.1, h2.1, h3.1, h4.1, fun p hp => (h2.2 p hp).2.2.2.2.1, fun x hx => (h3.2 x hx).1.1⟩
theorem lifted (os : Os) (started : os.Started) (H : Type) (enc : TypeId × Value → H) :
    ReturnsInHanded {} Tryz.checked os 8 .any (Rows.ordersLostSpec.pre6 enc Tryz.prog Tryz.f8 Rows.ordersLostRow.domain false) (Rows.ordersLostSpec.post enc Tryz.prog Tryz.f8 false true false false) := by
  refine returnsInHanded_of_change (C := Tryz.checked) own started (by kernel_rfl) Tryz.func8
    (ChangeSpec.witness6 (enc := enc) (C := Tryz.checked) false ⟨#[], #[.agg #[.slice none 0 0, .slice none 0 0, .int .i64 0, .slice none 0 0, .slice none 0 0, .slice none 0 0, .slice none 0 0, .slice none 0 0, .int .i64 0], .int .i64 0], []⟩ 8 (by kernel_rfl) (by kernel_rfl) (by kernel_rfl) (by kernel_rfl)) ?_
  intro W base args ds gs before hval0 hW hcnd _
  exact law_contract (ts := .prod t32 t3) (rt := 4) (by kernel_rfl) spec_k8 (fun x hx => M.ret_of_eq (lawLost8 x (small_of hx.1)) rfl) (by kernel_rfl) (by kernel_rfl) rfl (by kernel_rfl) rfl (fun H ds h => by
    obtain ⟨d1, l1, rfl⟩ : ∃ d l, ds = d :: l := by cases ds with | nil => simp [Tryz.f8] at h | cons d l => exact ⟨d, l, rfl⟩
    obtain ⟨d2, l2, rfl⟩ : ∃ d l, l1 = d :: l := by cases l1 with | nil => simp [Tryz.f8] at h | cons d l => exact ⟨d, l, rfl⟩
    have : l2 = [] := by cases l2 with | nil => rfl | cons d l => simp [Tryz.f8] at h
    subst this
    rfl) hval0 hW
theorem over : Rows.ordersLostRow.holds Tryz.pinned (OpenSpec.ofChange Rows.ordersLostSpec) :=
  OpenClaim.holds_of_wide 8 Tryz.f8 rfl rfl rfl rfl rfl rfl rfl ⟨rfl, rfl, rfl, rfl, rfl⟩ rfl rfl rfl rfl rfl (by kernel_rfl) Tryz.func8 (by kernel_rfl)
    (of_decide_eq_true (by kernel_rfl)) (by unfold Func.isWrapper; first | (rw [if_pos (by decide +kernel)]; kernel_rfl) | (rw [if_neg (by decide +kernel)]; exact ⟨rfl, rfl⟩))
    (fun os started H enc _ => lifted os started H enc)
theorem proved : Rows.OrdersLostSaid := over
end Go.Proofs.YtlafippnchnleaaGreat.OrdersLostProof
