/- TopTrials returns true for every input, and leaves its arguments as they were; the row lists variables, tied by the card. No condition. -/
import Derived.Test.YtplfnoecifjgeaaGreatDoorTopTrialsG
import Derived.Test.YtplfnoecifjgeaaGreatDoorRows
import Derived.Test.YtplfnoecifjgeaaGreatDoorTie
import Derived.Test.YtplfnoecifjgeaaGreatDoorCards
import Derived.WalkKit
import Derived.ProofKit
import Derived.OpenShut
import Derived.LaidMore
import Derived.Lay
import Derived.SevenTiedAt
import Derived.Stop.Joined
import Derived.Test.YtplfnoecifjgeaaGreatDoorTopTrialsx
import Derived.Test.YtplfnoecifjgeaaGreatDoorTopTrialsy
set_option linter.unusedVariables false
set_option linter.unusedSimpArgs false
namespace Go.Proofs.YtplfnoecifjgeaaGreatDoor.TopTrialsProof
open Go.ChangeShapes Go.WideShapes Go.ChangeAt Go.RowKit Go.Fer Go.Fer.oe
set_option maxRecDepth 100000
theorem own : ownKnob Tryz.prog.godebug = none := by kernel_rfl
theorem acx{ak : Type}{m : A ak}{v : ak}{p : ak -> Prop}(h : m = A.pure v)(an : p v) : A.cx m p := by rw[h]; exact A.ea.2 an
theorem JT{H : Type}{d : DataW H}{l : List (DataW H)}(h : d ∈ l) : Rows.uptoBulk d <= Rows.uptoBulkAll l := by
  induction l with
  | nil => cases h
  | cons x r aJ =>
    simp only[Rows.uptoBulkAll];rcases List.mem_cons.1 h with rfl | e
    · omega
    · have := aJ e; omega
theorem one_le{H : Type}(d : DataW H) : 1 <= Rows.uptoBulk d := by
  cases d with
  | lit l => cases l <;> simp[Rows.uptoBulk]
  | _ => simp[Rows.uptoBulk]
theorem acy{H : Type}(l : List (DataW H)) : l.length <= Rows.uptoBulkAll l := by
  induction l with
  | nil => simp[Rows.uptoBulkAll]
  | cons x r aJ => have := one_le x; simp only[Rows.uptoBulkAll, List.length_cons]; omega
theorem acz(H : Type) : BL (Rows.uptoBulk (H := H)) where
  len := λe s => by have := acy e; simp only[Rows.uptoBulk]; omega
  BM := λe s d h => by have := JT h; simp only[Rows.uptoBulk]; omega
  Rc := λl d h => by have := JT h; simp only[Rows.uptoBulk]; omega
theorem acA{s : bF}(h : ad.hA t32 s) : e7 s := by
  obtain⟨⟨⟨E, _⟩, ⟨U, ag⟩, _, ⟨a1, _⟩⟩, ⟨bL, _⟩, ⟨dm, fS⟩, ⟨jg, pX⟩, ⟨acB, _⟩, _⟩ := h;exact⟨⟨E, U, a1, λm hm => ⟨(ag m hm).1, λs aD => ((ag m hm).2 s aD).2.1.1⟩⟩, bL, dm, jg, acB, λp an => (fS p an).2.2.2.2.1, λx ah => (pX x ah).1.1⟩
theorem acC{c : H.aZ}(h : ad.hA tm c) : H.ix c := by
  obtain⟨⟨E, _⟩, ⟨U, _⟩, ⟨ag, _⟩, ⟨a1, _⟩, _⟩ := h;exact⟨E, U, ag, a1⟩
theorem acD{ar : World}(ah : laidMetH Tryz.prog Rows.topTrialsRow.laid ar) : Lib.TabIs Tryz.prog ar "internal/strconv.uint64pow10" .u64 Lib.pow10Tab := by
  rw[MakeChecks.laidMetH_plain _ _ _ (by kernel_rfl)]at ah;obtain⟨_, ae, _⟩ := ah;obtain⟨g, t, cs, cj, p, E, U, ag, a1⟩ := JU ae "internal/strconv.uint64pow10" Rows.laid_internal_strconv_uint64pow10 (by simp[Rows.topTrialsRow]);obtain rfl := Option.some.inj ((show Tryz.prog.globalNamed "internal/strconv.uint64pow10" = some 5 by kernel_rfl).symm.trans E);obtain rfl := Option.some.inj ((show (Tryz.prog.globals[5]?).map (·.type) = some 418 by kernel_rfl).symm.trans U);unfold Lib.TabIs;rw[ag, <- Lib.cells_of_tab (zs := Lib.pow10Tab) Tryz.underlying418 Tryz.underlying285 (by kernel_rfl) (by kernel_rfl) a1]
theorem Re{ar : World}(ah : laidMetH Tryz.prog Rows.topTrialsRow.laid ar){n : String}{d : DataW Unit}{b : Nat}(hm : (n, d) ∈ Rows.topTrialsRow.laid)(W : Tryz.prog.globalNamed n = some b)(aH : (Tryz.prog.globals[b]?).map (·.type) = some 266) : ∃ v, ar.cell? ⟨b, 0, none⟩ = some v /\ (v = .nilIface \/ ∃ lI mc, v = .iface lI mc) := by
  rw[MakeChecks.laidMetH_plain _ _ _ (by kernel_rfl)]at ah;obtain⟨_, ae, _⟩ := ah;obtain⟨g, t, cs, cj, p, E, U, ag, a1⟩ := JU ae n d hm;obtain rfl := Option.some.inj (W.symm.trans E);obtain rfl := Option.some.inj (aH.symm.trans U);exact acE W ag ⟨_, Tryz.underlying266⟩ a1
theorem lifted(os : Os)(started : os.Started)(H : Type)(enc : TypeId × Value -> H) :
    ReturnsInHanded {} Tryz.checked os 3 .any (λw args => (Rows.topTrialsSpec.pre enc Tryz.prog Tryz.f3 Rows.topTrialsRow.domain false w args /\ laidMetH Tryz.prog Rows.topTrialsRow.laid w) /\ sizedMet enc Tryz.prog Tryz.f3 (OpenSpec.ofChange Rows.topTrialsSpec) false w args)
      (Rows.topTrialsSpec.post enc Tryz.prog Tryz.f3 false true false false) := by
  refine acF (C := Tryz.checked) (X := λw _ => laidMetH Tryz.prog Rows.topTrialsRow.laid w) (λ_ _ _ cV h => h.of_heap cV) own started (by kernel_rfl) Tryz.func3
    (ChangeSpec.witness_shaped (enc := enc) (C := Tryz.checked) (os := os) (X := λw _ => laidMetH Tryz.prog Rows.topTrialsRow.laid w) false (World.laidAll Tryz.prog os Rows.topTrialsRow.laid) #[.agg #[.slice none 0 0, .slice none 0 0, .int .i64 0, .slice none 0 0, .slice none 0 0, .slice none 0 0, .slice none 0 0, .slice none 0 0, .int .i64 0, .slice none 0 0, .slice none 0 0, .slice none 0 0, .slice none 0 0, .int .i64 0, .int .i64 0, .int .i64 0, .int .i64 0, .int .i64 0, .int .i64 0, .int .i64 0], .agg #[.int .i64 0, .int .i64 0, .int .i64 0, .int .i64 0]] 9 (World.laidAll_os _ _ _)
      (World.shaped_of_ZipB (by kernel_rfl) (by kernel_rfl)) (by kernel_rfl) (by kernel_rfl) (by kernel_rfl)
      (by rw[MakeChecks.laidMetH_plain _ _ _ (by kernel_rfl)]; exact laidMet_laidAll _ (by kernel_rfl) (by kernel_rfl))) ?_
  intro ar base args bj gs before acG wP nE ah;exact acH (acz H) (N := Rows.uptoBulkAll bj) (ts := .ay wQ tn) (rt := 4) (by kernel_rfl) acI (λx ah _ => acx (Go.Fer.ar.acJ x (acA ah.1.1) (acC ah.1.2)) rfl) (by kernel_rfl) (by kernel_rfl) rfl (by kernel_rfl) rfl (λH bj h => by
    obtain⟨d1, e1, rfl⟩ : ∃ d l, bj = d :: l := by cases bj with | nil => simp[Tryz.f3]at h | cons d l => exact⟨d, l, rfl⟩
    obtain⟨d2, og, rfl⟩ : ∃ d l, e1 = d :: l := by cases e1 with | nil => simp[Tryz.f3]at h | cons d l => exact⟨d, l, rfl⟩
    have : og = [] := by cases og with | nil => rfl | cons d l => simp[Tryz.f3]at h
    subst this;rfl) acG wP (λd au => JT au) (acK nE (Re ah (n := "strconv.ErrSyntax") (d := Rows.laid_strconv_ErrSyntax) (by simp[Rows.topTrialsRow]) (by kernel_rfl) (by kernel_rfl)) (Re ah (n := "strconv.ErrRange") (d := Rows.laid_strconv_ErrRange) (by simp[Rows.topTrialsRow]) (by kernel_rfl) (by kernel_rfl)) (acD ah))
theorem gl : Rows.TopTrialsSaid :=
  OpenClaim.holds_of_wide 3 Tryz.f3 rfl rfl rfl rfl rfl rfl rfl ⟨rfl, rfl, rfl, rfl, rfl⟩ rfl rfl rfl rfl rfl a12 Tryz.func3 acu acv acw
    (λos started H enc _ => lifted os started H enc)
theorem proved : Rows.TopTrialsCardSaid :=
  Claim7.holds_tied_plain_at .later [] [.data, .data, .data, .data, .sentinel, .sentinel, .pinned] true Rows.topTrialsCard.stood.harness true gl (λ_ h => by cases h) hz (λ_ h => by cases h) topTrials_row_tie rfl ⟨rfl, rfl⟩ (by kernel_rfl) rfl
    (λf fn ao tp => by
      obtain rfl : f = 3 := Option.some.inj (a12.symm.trans ao) |>.symm;obtain rfl : fn = Tryz.f3 := (Option.some.inj (Tryz.func3.symm.trans tp)).symm;exact⟨a9, λj t aH => by
        rw[Tryz.params3]at aH;have hm : t ∈ [40, 42] := by simpa using Array.mem_of_getElem? aH
        have fT : ([40, 42].all λu => !Tryz.prog.wantsStandIn u) = true := by kernel_rfl
        exact (show Tryz.prog.wantsStandIn t = false by simpa using List.all_eq_true.1 fT t hm)⟩)
    acs
end Go.Proofs.YtplfnoecifjgeaaGreatDoor.TopTrialsProof
