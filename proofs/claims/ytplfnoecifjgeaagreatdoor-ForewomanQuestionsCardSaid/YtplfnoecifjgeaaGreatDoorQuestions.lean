/- ForewomanQuestions returns true for every input, and leaves its arguments as they were; the row lists variables, tied by the card. No condition. -/
import Derived.Test.YtplfnoecifjgeaaGreatDoorQuestionsG
import Derived.Test.YtplfnoecifjgeaaGreatDoorRows
import Derived.Test.YtplfnoecifjgeaaGreatDoorTie
import Derived.Test.YtplfnoecifjgeaaGreatDoorCards
import Derived.WalkKit
import Derived.ProofKit
import Derived.OpenShut
import Derived.LaidMore
import Derived.Lay
import Derived.SevenTiedAt
import Derived.Stop.Joined
import Derived.Test.YtplfnoecifjgeaaGreatDoorQuestionsx
import Derived.Test.YtplfnoecifjgeaaGreatDoorQuestionsy
namespace Go.Proofs.YtplfnoecifjgeaaGreatDoor.ForewomanQuestionsProof
open Go.ChangeShapes Go.WideShapes Go.ChangeAt Go.RowKit Go.Fer Go.Fer.n_
set_option linter.unusedVariables false
set_option maxRecDepth 100000
theorem an : ownKnob Tryz.prog.godebug = none := by kernel_rfl
theorem abH {al : Type} {m : A al} {v : al} {p : al -> Prop} (h : m = A.pure v) (ar : p v) : A.cv m p := by rw [h]; exact A.ea.2 ar
theorem Jv {H : Type} {d : DataW H} {l : List (DataW H)} (h : d ∈ l) : Rows.uptoBulk d <= Rows.uptoBulkAll l := by
  induction l with
  | nil => cases h
  | cons x r aM =>
    simp only [Rows.uptoBulkAll];rcases List.mem_cons.1 h with rfl | e
    · omega
    · have := aM e; omega
theorem abI {H : Type} (d : DataW H) : 1 <= Rows.uptoBulk d := by
  cases d with
  | lit l => cases l <;> simp [Rows.uptoBulk]
  | _ => simp [Rows.uptoBulk]
theorem abJ {H : Type} (l : List (DataW H)) : l.length <= Rows.uptoBulkAll l := by
  induction l with
  | nil => simp [Rows.uptoBulkAll]
  | cons x r aM => have := abI x; simp only [Rows.uptoBulkAll, List.length_cons]; omega
theorem abK (H : Type) : Bi (Rows.uptoBulk (H := H)) where
  len := λe s => by have := abJ e; simp only [Rows.uptoBulk]; omega
  Bj := λe s d h => by have := Jv h; simp only [Rows.uptoBulk]; omega
  QN := λl d h => by have := Jv h; simp only [Rows.uptoBulk]; omega
theorem abL {s : bJ} (h : ad.hy oY s) : fu s := by
  obtain ⟨⟨⟨G, _⟩, ⟨V, ah⟩, _, ⟨a7, _⟩⟩, ⟨bM, _⟩, ⟨dr, fY⟩, ⟨jb, pT⟩, ⟨abM, _⟩, _⟩ := h;exact ⟨⟨G, V, a7, λm hm => ⟨(ah m hm).1, λs aG => ((ah m hm).2 s aG).2.1.1⟩⟩, bM, dr, jb, abM, λp ar => (fY p ar).2.2.2.2.1, λx aj => (pT x aj).1.1⟩
theorem abN {c : H.a6} (h : ad.hy s6 c) : H.iN c := by
  obtain ⟨⟨G, _⟩, ⟨V, _⟩, ⟨ah, _⟩, ⟨a7, _⟩, _⟩ := h;exact ⟨G, V, ah, a7⟩
theorem abO {ax : World} (aj : laidMetH Tryz.prog Rows.forewomanQuestionsRow.laid ax) : Lib.TabIs Tryz.prog ax "internal/strconv.uint64pow10" .u64 Lib.pow10Tab := by
  rw [MakeChecks.laidMetH_plain _ _ _ (by kernel_rfl)] at aj;obtain ⟨_, af, _⟩ := aj;obtain ⟨g, t, cs, cd, p, G, V, ah, a7⟩ := Jw af "internal/strconv.uint64pow10" Rows.laid_internal_strconv_uint64pow10 (by simp [Rows.forewomanQuestionsRow]);obtain rfl := Option.some.inj ((show Tryz.prog.globalNamed "internal/strconv.uint64pow10" = some 5 by kernel_rfl).symm.trans G);obtain rfl := Option.some.inj ((show (Tryz.prog.globals[5]?).map (·.type) = some 418 by kernel_rfl).symm.trans V);unfold Lib.TabIs;rw [ah, <- Lib.cells_of_tab (zs := Lib.pow10Tab) Tryz.underlying418 Tryz.underlying285 (by kernel_rfl) (by kernel_rfl) a7]
theorem QO {ax : World} (aj : laidMetH Tryz.prog Rows.forewomanQuestionsRow.laid ax) {n : String} {d : DataW Unit} {b : Nat} (hm : (n, d) ∈ Rows.forewomanQuestionsRow.laid) (aa : Tryz.prog.globalNamed n = some b) (aL : (Tryz.prog.globals[b]?).map (·.type) = some 266) : ∃ v, ax.cell? ⟨b, 0, none⟩ = some v /\ (v = .nilIface \/ ∃ ly l4, v = .iface ly l4) := by
  rw [MakeChecks.laidMetH_plain _ _ _ (by kernel_rfl)] at aj;obtain ⟨_, af, _⟩ := aj;obtain ⟨g, t, cs, cd, p, G, V, ah, a7⟩ := Jw af n d hm;obtain rfl := Option.some.inj (aa.symm.trans G);obtain rfl := Option.some.inj (aL.symm.trans V);exact abP aa ah ⟨_, Tryz.underlying266⟩ a7
theorem lifted (os : Os) (started : os.Started) (H : Type) (enc : TypeId × Value -> H) :
    ReturnsInHanded {} Tryz.checked os 8 .any (λw args => (Rows.forewomanQuestionsSpec.pre enc Tryz.prog Tryz.f8 Rows.forewomanQuestionsRow.domain false w args /\ laidMetH Tryz.prog Rows.forewomanQuestionsRow.laid w) /\ sizedMet enc Tryz.prog Tryz.f8 (OpenSpec.ofChange Rows.forewomanQuestionsSpec) false w args)
      (Rows.forewomanQuestionsSpec.post enc Tryz.prog Tryz.f8 false true false false) := by
  refine abQ (C := Tryz.checked) (X := λw _ => laidMetH Tryz.prog Rows.forewomanQuestionsRow.laid w) (λ_ _ _ cR h => h.of_heap cR) an started (by kernel_rfl) Tryz.func8
    (ChangeSpec.witness_shaped (enc := enc) (C := Tryz.checked) (os := os) (X := λw _ => laidMetH Tryz.prog Rows.forewomanQuestionsRow.laid w) false (World.laidAll Tryz.prog os Rows.forewomanQuestionsRow.laid) #[.agg #[.slice none 0 0, .slice none 0 0, .int .i64 0, .slice none 0 0, .slice none 0 0, .slice none 0 0, .slice none 0 0, .slice none 0 0, .int .i64 0, .slice none 0 0, .slice none 0 0, .slice none 0 0, .slice none 0 0, .int .i64 0, .int .i64 0, .int .i64 0, .int .i64 0, .int .i64 0, .int .i64 0, .int .i64 0], .slice none 0 0] 8 (World.laidAll_os _ _ _)
      (World.shaped_of_ZipB (by kernel_rfl) (by kernel_rfl)) (by kernel_rfl) (by kernel_rfl) (by kernel_rfl)
      (by rw [MakeChecks.laidMetH_plain _ _ _ (by kernel_rfl)]; exact laidMet_laidAll _ (by kernel_rfl) (by kernel_rfl))) ?_
  intro ax base args bk gs before abR wj ny aj;exact abS (abK H) (N := Rows.uptoBulkAll bk) (ts := .aA wk EL) (rt := 4) (by kernel_rfl) abT (λx aj _ => abH (Go.Fer.ax.abU x (abL aj.1.1) (abN aj.1.2) aj.2.1) rfl) (by kernel_rfl) (by kernel_rfl) rfl (by kernel_rfl) rfl (λH bk h => by
    obtain ⟨d1, e_, rfl⟩ : ∃ d l, bk = d :: l := by cases bk with | nil => simp [Tryz.f8] at h | cons d l => exact ⟨d, l, rfl⟩
    obtain ⟨d2, pU, rfl⟩ : ∃ d l, e_ = d :: l := by cases e_ with | nil => simp [Tryz.f8] at h | cons d l => exact ⟨d, l, rfl⟩
    have : pU = [] := by cases pU with | nil => rfl | cons d l => simp [Tryz.f8] at h
    subst this;rfl) abR wj (λd ay => Jv ay) (abV ny (QO aj (n := "strconv.ErrSyntax") (d := Rows.laid_strconv_ErrSyntax) (by simp [Rows.forewomanQuestionsRow]) (by kernel_rfl) (by kernel_rfl)) (QO aj (n := "strconv.ErrRange") (d := Rows.laid_strconv_ErrRange) (by simp [Rows.forewomanQuestionsRow]) (by kernel_rfl) (by kernel_rfl)) (abO aj))
theorem fZ : Rows.ForewomanQuestionsSaid :=
  OpenClaim.holds_of_wide 8 Tryz.f8 rfl rfl rfl rfl rfl rfl rfl ⟨rfl, rfl, rfl, rfl, rfl⟩ rfl rfl rfl rfl rfl QM Tryz.func8 abE abF abG
    (λos started H enc _ => lifted os started H enc)
theorem proved : Rows.ForewomanQuestionsCardSaid :=
  Claim7.holds_tied_plain_at .later [] [.data, .data, .data, .data, .sentinel, .sentinel, .pinned] true Rows.forewomanQuestionsCard.stood.harness true fZ (λ_ h => by cases h) hx (λ_ h => by cases h) forewomanQuestions_row_tie rfl ⟨rfl, rfl⟩ (by kernel_rfl) rfl
    (λf fn aw s7 => by
      obtain rfl : f = 8 := Option.some.inj (QM.symm.trans aw) |>.symm;obtain rfl : fn = Tryz.f8 := (Option.some.inj (Tryz.func8.symm.trans s7)).symm;exact ⟨a9, λj t aL => by
        rw [Tryz.params8] at aL;have hm : t ∈ [40, 48] := by simpa using Array.mem_of_getElem? aL
        have fB : ([40, 48].all λu => !Tryz.prog.wantsStandIn u) = true := by kernel_rfl
        exact (show Tryz.prog.wantsStandIn t = false by simpa using List.all_eq_true.1 fB t hm)⟩)
    abD
end Go.Proofs.YtplfnoecifjgeaaGreatDoor.ForewomanQuestionsProof
