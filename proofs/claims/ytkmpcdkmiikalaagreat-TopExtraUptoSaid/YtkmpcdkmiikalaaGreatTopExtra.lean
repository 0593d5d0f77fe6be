/- TopExtra returns true for every input of bulk at most 1048576, and leaves its arguments as they were. Condition: the bound on the bulk of what is read (the statement's own). -/
import Derived.Test.YtkmpcdkmiikalaaGreatTopExtraG
import Derived.Test.YtkmpcdkmiikalaaGreatRows
import Derived.WalkKit
import Derived.ProofKit
import Derived.OpenShut
import Derived.JoinedCond
namespace Go.Proofs.YtkmpcdkmiikalaaGreat.TopExtraProof
open Go.ChangeShapes Go.WideShapes Go.ChangeAt Go.RowKit Go.Fer Go.Fer.y1
set_option linter.unusedVariables false
set_option maxRecDepth 100000

theorem ad : ownKnob Tryz.prog.godebug = none := by kernel_rfl
theorem Jr {H : Type} {d : DataW H} {l : List (DataW H)} (h : d ∈ l) : Rows.uptoBulk d <= Rows.uptoBulkAll l := by
  induction l with
  | nil => cases h
  | cons x r aO =>
    simp only [Rows.uptoBulkAll];rcases List.mem_cons.1 h with rfl | e
    · omega
    · have := aO e; omega
theorem Z1 {H : Type} (d : DataW H) : 1 <= Rows.uptoBulk d := by
  cases d with
  | lit l => cases l <;> simp [Rows.uptoBulk]
  | _ => simp [Rows.uptoBulk]
theorem Z2 {H : Type} (l : List (DataW H)) : l.length <= Rows.uptoBulkAll l := by
  induction l with
  | nil => simp [Rows.uptoBulkAll]
  | cons x r aO => have := Z1 x; simp only [Rows.uptoBulkAll, List.length_cons]; omega
theorem Z3 (H : Type) : BB (Rows.uptoBulk (H := H)) where
  len := λe s => by have := Z2 e; simp only [Rows.uptoBulk]; omega
  Qi := λe s d h => by have := Jr h; simp only [Rows.uptoBulk]; omega
  Qj := λl d h => by have := Jr h; simp only [Rows.uptoBulk]; omega
theorem Z4 {s : a3} (h : ai.n6 1048576 jZ s) : sa s := by
  obtain ⟨⟨⟨M, _⟩, ⟨aa, an⟩, _, ⟨a8, _⟩⟩, ⟨bV, _⟩, ⟨d_, hL⟩, ⟨mw, pn⟩, ⟨Qk, _⟩, _⟩ := h;have k : ∀ {n : Nat}, n <= 1048576 -> n <= 2000000 := λh => by omega
  exact ⟨⟨k M, k aa, k a8, λm hm => ⟨k (an m hm).1, λs aA => k ((an m hm).2 s aA).2.1.1⟩⟩, k bV, k d_, k mw, k Qk, λp ar => k (hL p ar).2.2.2.2.1, λx au => k (pn x au).1.1⟩
theorem Z5 (H : Type) (enc : TypeId × Value -> H) (bb : World) (base : Nat) (args : Array Value) (bn gs : List (DataW H)) (before : List MemPlace)
    (rf : ∀ (j : Nat) t v, Tryz.f3.params[j]? = some t -> args[j]? = some v -> Value.okWide Tryz.prog bb .any base t v)
    (rh : DataW.Whole enc Tryz.prog Tryz.f3.params.toList Rows.topExtraSpec.vars false bb args.toList bn gs before) (ak : Rows.uptoSmall H (bn ++ gs) = true) :
    Calls Tryz.prog 3 args bb λe n7 => ∃ v, e = .returned v /\ Rows.topExtraSpec.post enc Tryz.prog Tryz.f3 false true false false bb args v n7 :=
  Z6 (Z3 H) (N := 1048576) (ts := .aG jZ (.aG ey a7)) (rt := 4) (by kernel_rfl) Z7 (λx au ax => A.Z8 (Z9 x (Z4 ax.1) (by have := ax.2.1.1; omega)) rfl) (by kernel_rfl) (by kernel_rfl) rfl (by kernel_rfl) rfl (λH bn h => by
    obtain ⟨d1, eS, rfl⟩ : ∃ d l, bn = d :: l := by cases bn with | nil => simp [Tryz.f3] at h | cons d l => exact ⟨d, l, rfl⟩
    obtain ⟨d2, tw, rfl⟩ : ∃ d l, eS = d :: l := by cases eS with | nil => simp [Tryz.f3] at h | cons d l => exact ⟨d, l, rfl⟩
    obtain ⟨d3, nu, rfl⟩ : ∃ d l, tw = d :: l := by cases tw with | nil => simp [Tryz.f3] at h | cons d l => exact ⟨d, l, rfl⟩
    have : nu = [] := by cases nu with | nil => rfl | cons d l => simp [Tryz.f3] at h
    subst this;rfl) rf rh (λd aN => Nat.le_trans (Jr (List.mem_append_left _ aN)) (of_decide_eq_true ak))
theorem Z_ (os : Os) (started : os.Started) (H : Type) (enc : TypeId × Value -> H) (F : Stop.Interp) :
    ReturnsInHanded {} Tryz.checked os 3 .any ((Rows.OpenSpec.upto Rows.topExtraSpec).pre6 enc Tryz.prog Tryz.f3 Rows.topExtraUptoRow.domain false) (((Rows.OpenSpec.upto Rows.topExtraSpec).at F).post enc Tryz.prog Tryz.f3 false true false false) := by
  refine returnsInHanded_of_cond (C := Tryz.checked) (s := Rows.OpenSpec.upto Rows.topExtraSpec) (k := Rows.uptoSmall) rfl ad started (by kernel_rfl) Tryz.func3
    (OpenSpec.witness (enc := enc) (C := Tryz.checked) (s := Rows.OpenSpec.upto Rows.topExtraSpec) (k := Rows.uptoSmall) rfl false ⟨#[], #[.agg #[.slice none 0 0, .slice none 0 0, .int .i64 0, .slice none 0 0, .slice none 0 0, .slice none 0 0, .slice none 0 0, .slice none 0 0, .int .i64 0], .slice none 0 0, .int .i64 0], []⟩ 8 (by kernel_rfl) (by kernel_rfl) (by kernel_rfl)
      (x := ([.agg [.agg [.nil, .nil, .lit (.int .i64 0), .nil], .nil, .nil, .nil, .nil, .lit (.int .i64 0)], .nil, .lit (.int .i64 0)], [], [])) (by kernel_rfl) rfl (by kernel_rfl)) ?_
  intro bb base args bn gs before rf rh _ ak _;exact Z5 H enc bb base args bn gs before rf rh ak
theorem g0 : Rows.topExtraUptoRow.holds Tryz.pinned (Rows.OpenSpec.upto Rows.topExtraSpec) :=
  OpenClaim.holds_of_cond 3 Tryz.f3 rfl rfl rfl rfl rfl rfl rfl ⟨rfl, rfl, rfl, rfl, rfl⟩ rfl rfl rfl rfl rfl (by kernel_rfl) Tryz.func3 (by kernel_rfl)
    (of_decide_eq_true (by kernel_rfl)) (by unfold Func.isWrapper; first | (rw [if_pos (by decide +kernel)]; kernel_rfl) | (rw [if_neg (by decide +kernel)]; exact ⟨rfl, rfl⟩))
    (λos started H enc _ F => Z_ os started H enc F)
theorem proved : Rows.TopExtraUptoSaid := g0
end Go.Proofs.YtkmpcdkmiikalaaGreat.TopExtraProof
