/- ForewomanAnswers returns true for every input, and leaves its arguments as they were; the row lists variables, tied by the card. No condition. -/
import Derived.Test.YtplfnoecifjgeaaGreatDoorAnswersG
import Derived.Test.YtplfnoecifjgeaaGreatDoorRows
import Derived.Test.YtplfnoecifjgeaaGreatDoorTie
import Derived.Test.YtplfnoecifjgeaaGreatDoorCards
import Derived.WalkKit
import Derived.ProofKit
import Derived.OpenShut
import Derived.LaidMore
import Derived.Lay
import Derived.SevenTiedAt
import Derived.Stop.Joined
import Derived.Test.YtplfnoecifjgeaaGreatDoorAnswersx
import Derived.Test.YtplfnoecifjgeaaGreatDoorAnswersy
set_option linter.unusedVariables false
set_option linter.unusedSimpArgs false
namespace Go.Proofs.YtplfnoecifjgeaaGreatDoor.ForewomanAnswersProof
open Go.ChangeShapes Go.WideShapes Go.ChangeAt Go.RowKit Go.Fer Go.Fer.oE
set_option maxRecDepth 100000
theorem own : ownKnob Tryz.prog.godebug = none := by kernel_rfl
theorem acS{ak : Type}{m : A ak}{v : ak}{p : ak -> Prop}(h : m = A.pure v)(an : p v) : A.cu m p := by rw[h]; exact A.d_.2 an
theorem Kt{H : Type}{d : DataW H}{l : List (DataW H)}(h : d ∈ l) : Rows.uptoBulk d <= Rows.uptoBulkAll l := by
  induction l with
  | nil => cases h
  | cons x r aH =>
    simp only[Rows.uptoBulkAll];rcases List.mem_cons.1 h with rfl | e
    · omega
    · have := aH e; omega
theorem one_le{H : Type}(d : DataW H) : 1 <= Rows.uptoBulk d := by
  cases d with
  | lit l => cases l <;> simp[Rows.uptoBulk]
  | _ => simp[Rows.uptoBulk]
theorem acT{H : Type}(l : List (DataW H)) : l.length <= Rows.uptoBulkAll l := by
  induction l with
  | nil => simp[Rows.uptoBulkAll]
  | cons x r aH => have := one_le x; simp only[Rows.uptoBulkAll, List.length_cons]; omega
theorem acU(H : Type) : B' (Rows.uptoBulk (H := H)) where
  len := λe s => by have := acT e; simp only[Rows.uptoBulk]; omega
  Ca := λe s d h => by have := Kt h; simp only[Rows.uptoBulk]; omega
  Rp := λl d h => by have := Kt h; simp only[Rows.uptoBulk]; omega
theorem acV{s : bI}(h : ab.hC t32 s) : fE s := by
  obtain⟨⟨⟨E, _⟩, ⟨U, ag⟩, _, ⟨a6, _⟩⟩, ⟨bM, _⟩, ⟨dt, gK⟩, ⟨iU, qk⟩, ⟨acW, _⟩, _⟩ := h;exact⟨⟨E, U, a6, λm hm => ⟨(ag m hm).1, λs aD => ((ag m hm).2 s aD).2.1.1⟩⟩, bM, dt, iU, acW, λp an => (gK p an).2.2.2.2.1, λx ah => (qk x ah).1.1⟩
theorem acX{c : H.a1}(h : ab.hC tJ c) : H.j6 c := by
  obtain⟨⟨E, _⟩, ⟨U, _⟩, ⟨ag, _⟩, ⟨a6, _⟩, _⟩ := h;exact⟨E, U, ag, a6⟩
theorem acY{aw : World}(ah : laidMetH Tryz.prog Rows.forewomanAnswersRow.laid aw) : Lib.TabIs Tryz.prog aw "internal/strconv.uint64pow10" .u64 Lib.pow10Tab := by
  rw[MakeChecks.laidMetH_plain _ _ _ (by kernel_rfl)]at ah;obtain⟨_, ae, _⟩ := ah;obtain⟨g, t, cs, ch, p, E, U, ag, a6⟩ := Ku ae "internal/strconv.uint64pow10" Rows.laid_internal_strconv_uint64pow10 (by simp[Rows.forewomanAnswersRow]);obtain rfl := Option.some.inj ((show Tryz.prog.globalNamed "internal/strconv.uint64pow10" = some 5 by kernel_rfl).symm.trans E);obtain rfl := Option.some.inj ((show (Tryz.prog.globals[5]?).map (·.type) = some 418 by kernel_rfl).symm.trans U);unfold Lib.TabIs;rw[ag, <- Lib.cells_of_tab (zs := Lib.pow10Tab) Tryz.underlying418 Tryz.underlying285 (by kernel_rfl) (by kernel_rfl) a6]
theorem Rq{aw : World}(ah : laidMetH Tryz.prog Rows.forewomanAnswersRow.laid aw){n : String}{d : DataW Unit}{b : Nat}(hm : (n, d) ∈ Rows.forewomanAnswersRow.laid)(W : Tryz.prog.globalNamed n = some b)(aL : (Tryz.prog.globals[b]?).map (·.type) = some 266) : ∃ v, aw.cell? ⟨b, 0, none⟩ = some v /\ (v = .nilIface \/ ∃ lI ml, v = .iface lI ml) := by
  rw[MakeChecks.laidMetH_plain _ _ _ (by kernel_rfl)]at ah;obtain⟨_, ae, _⟩ := ah;obtain⟨g, t, cs, ch, p, E, U, ag, a6⟩ := Ku ae n d hm;obtain rfl := Option.some.inj (W.symm.trans E);obtain rfl := Option.some.inj (aL.symm.trans U);exact acZ W ag ⟨_, Tryz.underlying266⟩ a6
theorem lifted(os : Os)(started : os.Started)(H : Type)(enc : TypeId × Value -> H) :
    ReturnsInHanded {} Tryz.checked os 7 .any (λw args => (Rows.forewomanAnswersSpec.pre enc Tryz.prog Tryz.f7 Rows.forewomanAnswersRow.domain false w args /\ laidMetH Tryz.prog Rows.forewomanAnswersRow.laid w) /\ sizedMet enc Tryz.prog Tryz.f7 (OpenSpec.ofChange Rows.forewomanAnswersSpec) false w args)
      (Rows.forewomanAnswersSpec.post enc Tryz.prog Tryz.f7 false true false false) := by
  refine ac0 (C := Tryz.checked) (X := λw _ => laidMetH Tryz.prog Rows.forewomanAnswersRow.laid w) (λ_ _ _ cT h => h.of_heap cT) own started (by kernel_rfl) Tryz.func7
    (ChangeSpec.witness_shaped (enc := enc) (C := Tryz.checked) (os := os) (X := λw _ => laidMetH Tryz.prog Rows.forewomanAnswersRow.laid w) false (World.laidAll Tryz.prog os Rows.forewomanAnswersRow.laid) #[.agg #[.slice none 0 0, .slice none 0 0, .int .i64 0, .slice none 0 0, .slice none 0 0, .slice none 0 0, .slice none 0 0, .slice none 0 0, .int .i64 0, .slice none 0 0, .slice none 0 0, .slice none 0 0, .slice none 0 0, .int .i64 0, .int .i64 0, .int .i64 0, .int .i64 0, .int .i64 0, .int .i64 0, .int .i64 0], .slice none 0 0, .agg #[.int .i64 0, .int .i64 0, .int .i64 0, .int .i64 0, .int .i64 0, .int .i64 0, .int .i64 0, .int .i64 0]] 7 (World.laidAll_os _ _ _)
      (World.shaped_of_ZipB (by kernel_rfl) (by kernel_rfl)) (by kernel_rfl) (by kernel_rfl) (by kernel_rfl)
      (by rw[MakeChecks.laidMetH_plain _ _ _ (by kernel_rfl)]; exact laidMet_laidAll _ (by kernel_rfl) (by kernel_rfl))) ?_
  intro aw base args bh gs before ac1 w4 nP ah;exact ac2 (acU H) (N := Rows.uptoBulkAll bh) (ts := .az w5 (.az FM Kv)) (rt := 4) (by kernel_rfl) ac3 (λx ah _ => acS (Go.Fer.aw.ac4 x (acV ah.1.1) (acX ah.1.2) ah.2.1.1) rfl) (by kernel_rfl) (by kernel_rfl) rfl (by kernel_rfl) rfl (λH bh h => by
    obtain⟨d1, ey, rfl⟩ : ∃ d l, bh = d :: l := by cases bh with | nil => simp[Tryz.f7]at h | cons d l => exact⟨d, l, rfl⟩
    obtain⟨d2, pn, rfl⟩ : ∃ d l, ey = d :: l := by cases ey with | nil => simp[Tryz.f7]at h | cons d l => exact⟨d, l, rfl⟩
    obtain⟨d3, zm, rfl⟩ : ∃ d l, pn = d :: l := by cases pn with | nil => simp[Tryz.f7]at h | cons d l => exact⟨d, l, rfl⟩
    have : zm = [] := by cases zm with | nil => rfl | cons d l => simp[Tryz.f7]at h
    subst this;rfl) ac1 w4 (λd aq => Kt aq) (ac5 nP (Rq ah (n := "strconv.ErrSyntax") (d := Rows.laid_strconv_ErrSyntax) (by simp[Rows.forewomanAnswersRow]) (by kernel_rfl) (by kernel_rfl)) (Rq ah (n := "strconv.ErrRange") (d := Rows.laid_strconv_ErrRange) (by simp[Rows.forewomanAnswersRow]) (by kernel_rfl) (by kernel_rfl)) (acY ah))
theorem gg : Rows.ForewomanAnswersSaid :=
  OpenClaim.holds_of_wide 7 Tryz.f7 rfl rfl rfl rfl rfl rfl rfl ⟨rfl, rfl, rfl, rfl, rfl⟩ rfl rfl rfl rfl rfl a12 Tryz.func7 acP acQ acR
    (λos started H enc _ => lifted os started H enc)
theorem proved : Rows.ForewomanAnswersCardSaid :=
  Claim7.holds_tied_plain_at .later [] [.data, .data, .data, .data, .sentinel, .sentinel, .pinned] true Rows.forewomanAnswersCard.stood.harness true gg (λ_ h => by cases h) hB (λ_ h => by cases h) forewomanAnswers_row_tie rfl ⟨rfl, rfl⟩ (by kernel_rfl) rfl
    (λf fn ar tK => by
      obtain rfl : f = 7 := Option.some.inj (a12.symm.trans ar) |>.symm;obtain rfl : fn = Tryz.f7 := (Option.some.inj (Tryz.func7.symm.trans tK)).symm;exact⟨a9, λj t aL => by
        rw[Tryz.params7]at aL;have hm : t ∈ [40, 48, 74] := by simpa using Array.mem_of_getElem? aL
        have fF : ([40, 48, 74].all λu => !Tryz.prog.wantsStandIn u) = true := by kernel_rfl
        exact (show Tryz.prog.wantsStandIn t = false by simpa using List.all_eq_true.1 fF t hm)⟩)
    acO
end Go.Proofs.YtplfnoecifjgeaaGreatDoor.ForewomanAnswersProof
