/- ForewomanAnswers returns true for every input, and leaves its arguments as they were; the row lists variables, tied by the card. No condition. -/
import Derived.Test.YtplfnoecifjgeaaGreatDoorAnswersG
import Derived.Test.YtplfnoecifjgeaaGreatDoorRows
import Derived.Test.YtplfnoecifjgeaaGreatDoorTie
import Derived.Test.YtplfnoecifjgeaaGreatDoorCards
import Derived.WalkKit
import Derived.ProofKit
import Derived.OpenShut
import Derived.LaidMore
import Derived.Lay
import Derived.SevenTiedAt
import Derived.Stop.Joined
import Derived.Test.YtplfnoecifjgeaaGreatDoorAnswersx
import Derived.Test.YtplfnoecifjgeaaGreatDoorAnswersy
set_option linter.unusedVariables false
set_option linter.unusedSimpArgs false
namespace Go.Proofs.YtplfnoecifjgeaaGreatDoor.ForewomanAnswersProof
open Go.ChangeShapes Go.WideShapes Go.ChangeAt Go.RowKit Go.Fer Go.Fer.oG
set_option maxRecDepth 100000
theorem an : ownKnob Tryz.prog.godebug = none := by kernel_rfl
theorem acW{ak : Type}{m : A ak}{v : ak}{p : ak -> Prop}(h : m = A.pure v)(ao : p v) : A.cv m p := by rw[h]; exact A.d'.2 ao
theorem Kx{H : Type}{d : DataW H}{l : List (DataW H)}(h : d ∈ l) : Rows.uptoBulk d <= Rows.uptoBulkAll l := by
  induction l with
  | nil => cases h
  | cons x r aI =>
    simp only[Rows.uptoBulkAll];rcases List.mem_cons.1 h with rfl | e
    · omega
    · have := aI e; omega
theorem one_le{H : Type}(d : DataW H) : 1 <= Rows.uptoBulk d := by
  cases d with
  | lit l => cases l <;> simp[Rows.uptoBulk]
  | _ => simp[Rows.uptoBulk]
theorem acX{H : Type}(l : List (DataW H)) : l.length <= Rows.uptoBulkAll l := by
  induction l with
  | nil => simp[Rows.uptoBulkAll]
  | cons x r aI => have := one_le x; simp only[Rows.uptoBulkAll, List.length_cons]; omega
theorem acY(H : Type) : Cd (Rows.uptoBulk (H := H)) where
  len := λe s => by have := acX e; simp only[Rows.uptoBulk]; omega
  Ce := λe s d h => by have := Kx h; simp only[Rows.uptoBulk]; omega
  Rt := λl d h => by have := Kx h; simp only[Rows.uptoBulk]; omega
theorem acZ{s : bJ}(h : ab.hD pq s) : fF s := by
  obtain⟨⟨⟨E, _⟩, ⟨U, ag⟩, _, ⟨a7, _⟩⟩, ⟨bN, _⟩, ⟨du, gL⟩, ⟨iV, qn⟩, ⟨ac0, _⟩, _⟩ := h;exact⟨⟨E, U, a7, λm hm => ⟨(ag m hm).1, λs aE => ((ag m hm).2 s aE).2.1.1⟩⟩, bN, du, iV, ac0, λp ao => (gL p ao).2.2.2.2.1, λx ah => (qn x ah).1.1⟩
theorem ac1{c : H.a6}(h : ab.hD tN c) : H.j7 c := by
  obtain⟨⟨E, _⟩, ⟨U, _⟩, ⟨ag, _⟩, ⟨a7, _⟩, _⟩ := h;exact⟨E, U, ag, a7⟩
theorem ac2{ax : World}(ah : laidMetH Tryz.prog Rows.forewomanAnswersRow.laid ax) : Lib.TabIs Tryz.prog ax "internal/strconv.uint64pow10" .u64 Lib.pow10Tab := by
  rw[MakeChecks.laidMetH_plain _ _ _ (by kernel_rfl)]at ah;obtain⟨_, ae, _⟩ := ah;obtain⟨g, t, cs, cj, p, E, U, ag, a7⟩ := Ky ae "internal/strconv.uint64pow10" Rows.laid_internal_strconv_uint64pow10 (by simp[Rows.forewomanAnswersRow]);obtain rfl := Option.some.inj ((show Tryz.prog.globalNamed "internal/strconv.uint64pow10" = some 5 by kernel_rfl).symm.trans E);obtain rfl := Option.some.inj ((show (Tryz.prog.globals[5]?).map (·.type) = some 418 by kernel_rfl).symm.trans U);unfold Lib.TabIs;rw[ag, <- Lib.cells_of_tab (zs := Lib.pow10Tab) Tryz.underlying418 Tryz.underlying285 (by kernel_rfl) (by kernel_rfl) a7]
theorem Ru{ax : World}(ah : laidMetH Tryz.prog Rows.forewomanAnswersRow.laid ax){n : String}{d : DataW Unit}{b : Nat}(hm : (n, d) ∈ Rows.forewomanAnswersRow.laid)(W : Tryz.prog.globalNamed n = some b)(aM : (Tryz.prog.globals[b]?).map (·.type) = some 266) : ∃ v, ax.cell? ⟨b, 0, none⟩ = some v /\ (v = .nilIface \/ ∃ lK mn, v = .iface lK mn) := by
  rw[MakeChecks.laidMetH_plain _ _ _ (by kernel_rfl)]at ah;obtain⟨_, ae, _⟩ := ah;obtain⟨g, t, cs, cj, p, E, U, ag, a7⟩ := Ky ae n d hm;obtain rfl := Option.some.inj (W.symm.trans E);obtain rfl := Option.some.inj (aM.symm.trans U);exact ac3 W ag ⟨_, Tryz.underlying266⟩ a7
theorem lifted(os : Os)(started : os.Started)(H : Type)(enc : TypeId × Value -> H) :
    ReturnsInHanded {} Tryz.checked os 7 .any (λw args => (Rows.forewomanAnswersSpec.pre enc Tryz.prog Tryz.f7 Rows.forewomanAnswersRow.domain false w args /\ laidMetH Tryz.prog Rows.forewomanAnswersRow.laid w) /\ sizedMet enc Tryz.prog Tryz.f7 (OpenSpec.ofChange Rows.forewomanAnswersSpec) false w args)
      (Rows.forewomanAnswersSpec.post enc Tryz.prog Tryz.f7 false true false false) := by
  refine ac4 (C := Tryz.checked) (X := λw _ => laidMetH Tryz.prog Rows.forewomanAnswersRow.laid w) (λ_ _ _ cU h => h.of_heap cU) an started (by kernel_rfl) Tryz.func7
    (ChangeSpec.witness_shaped (enc := enc) (C := Tryz.checked) (os := os) (X := λw _ => laidMetH Tryz.prog Rows.forewomanAnswersRow.laid w) false (World.laidAll Tryz.prog os Rows.forewomanAnswersRow.laid) #[.agg #[.slice none 0 0, .slice none 0 0, .int .i64 0, .slice none 0 0, .slice none 0 0, .slice none 0 0, .slice none 0 0, .slice none 0 0, .int .i64 0, .slice none 0 0, .slice none 0 0, .slice none 0 0, .slice none 0 0, .int .i64 0, .int .i64 0, .int .i64 0, .int .i64 0, .int .i64 0, .int .i64 0, .int .i64 0], .slice none 0 0, .agg #[.int .i64 0, .int .i64 0, .int .i64 0, .int .i64 0, .int .i64 0, .int .i64 0, .int .i64 0, .int .i64 0]] 7 (World.laidAll_os _ _ _)
      (World.shaped_of_ZipB (by kernel_rfl) (by kernel_rfl)) (by kernel_rfl) (by kernel_rfl) (by kernel_rfl)
      (by rw[MakeChecks.laidMetH_plain _ _ _ (by kernel_rfl)]; exact laidMet_laidAll _ (by kernel_rfl) (by kernel_rfl))) ?_
  intro ax base args bj gs before ac5 w8 nR ah;exact ac6 (acY H) (N := Rows.uptoBulkAll bj) (ts := .aA w9 (.aA FQ Kz)) (rt := 4) (by kernel_rfl) ac7 (λx ah _ => acW (Go.Fer.ax.ac8 x (acZ ah.1.1) (ac1 ah.1.2) ah.2.1.1) rfl) (by kernel_rfl) (by kernel_rfl) rfl (by kernel_rfl) rfl (λH bj h => by
    obtain⟨d1, ez, rfl⟩ : ∃ d l, bj = d :: l := by cases bj with | nil => simp[Tryz.f7]at h | cons d l => exact⟨d, l, rfl⟩
    obtain⟨d2, pr, rfl⟩ : ∃ d l, ez = d :: l := by cases ez with | nil => simp[Tryz.f7]at h | cons d l => exact⟨d, l, rfl⟩
    obtain⟨d3, zq, rfl⟩ : ∃ d l, pr = d :: l := by cases pr with | nil => simp[Tryz.f7]at h | cons d l => exact⟨d, l, rfl⟩
    have : zq = [] := by cases zq with | nil => rfl | cons d l => simp[Tryz.f7]at h
    subst this;rfl) ac5 w8 (λd ar => Kx ar) (ac9 nR (Ru ah (n := "strconv.ErrSyntax") (d := Rows.laid_strconv_ErrSyntax) (by simp[Rows.forewomanAnswersRow]) (by kernel_rfl) (by kernel_rfl)) (Ru ah (n := "strconv.ErrRange") (d := Rows.laid_strconv_ErrRange) (by simp[Rows.forewomanAnswersRow]) (by kernel_rfl) (by kernel_rfl)) (ac2 ah))
theorem gh : Rows.ForewomanAnswersSaid :=
  OpenClaim.holds_of_wide 7 Tryz.f7 rfl rfl rfl rfl rfl rfl rfl ⟨rfl, rfl, rfl, rfl, rfl⟩ rfl rfl rfl rfl rfl a12 Tryz.func7 acT acU acV
    (λos started H enc _ => lifted os started H enc)
theorem proved : Rows.ForewomanAnswersCardSaid :=
  Claim7.holds_tied_plain_at .lh [] [.data, .data, .data, .data, .sentinel, .sentinel, .pinned] true Rows.forewomanAnswersCard.stood.harness true gh (λ_ h => by cases h) hC (λ_ h => by cases h) forewomanAnswers_row_tie rfl ⟨rfl, rfl⟩ (by kernel_rfl) rfl
    (λf fn au tO => by
      obtain rfl : f = 7 := Option.some.inj (a12.symm.trans au) |>.symm;obtain rfl : fn = Tryz.f7 := (Option.some.inj (Tryz.func7.symm.trans tO)).symm;exact⟨a9, λj t aM => by
        rw[Tryz.params7]at aM;have hm : t ∈ [40, 48, 74] := by simpa using Array.mem_of_getElem? aM
        have fG : ([40, 48, 74].all λu => !Tryz.prog.wantsStandIn u) = true := by kernel_rfl
        exact (show Tryz.prog.wantsStandIn t = false by simpa using List.all_eq_true.1 fG t hm)⟩)
    acS
end Go.Proofs.YtplfnoecifjgeaaGreatDoor.ForewomanAnswersProof
