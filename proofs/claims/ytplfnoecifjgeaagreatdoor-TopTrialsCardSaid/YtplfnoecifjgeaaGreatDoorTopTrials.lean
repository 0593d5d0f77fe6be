/- TopTrials returns true for every input, and leaves its arguments as they were; the row lists variables, tied by the card. No condition. -/
import Derived.Test.YtplfnoecifjgeaaGreatDoorTopTrialsG
import Derived.Test.YtplfnoecifjgeaaGreatDoorRows
import Derived.Test.YtplfnoecifjgeaaGreatDoorTie
import Derived.Test.YtplfnoecifjgeaaGreatDoorCards
import Derived.WalkKit
import Derived.ProofKit
import Derived.OpenShut
import Derived.LaidMore
import Derived.Lay
import Derived.SevenTiedAt
import Derived.Stop.Joined
import Derived.Test.YtplfnoecifjgeaaGreatDoorTopTrialsx
import Derived.Test.YtplfnoecifjgeaaGreatDoorTopTrialsy
set_option linter.unusedVariables false
set_option linter.unusedSimpArgs false
namespace Go.Proofs.YtplfnoecifjgeaaGreatDoor.TopTrialsProof
open Go.ChangeShapes Go.WideShapes Go.ChangeAt Go.RowKit Go.Fer Go.Fer.oi
set_option maxRecDepth 100000
theorem al : ownKnob Tryz.prog.godebug = none := by kernel_rfl
theorem acB{ak : Type}{m : A ak}{v : ak}{p : ak -> Prop}(h : m = A.pure v)(ao : p v) : A.cy m p := by rw[h]; exact A.eb.2 ao
theorem JX{H : Type}{d : DataW H}{l : List (DataW H)}(h : d ∈ l) : Rows.uptoBulk d <= Rows.uptoBulkAll l := by
  induction l with
  | nil => cases h
  | cons x r aK =>
    simp only[Rows.uptoBulkAll];rcases List.mem_cons.1 h with rfl | e
    · omega
    · have := aK e; omega
theorem one_le{H : Type}(d : DataW H) : 1 <= Rows.uptoBulk d := by
  cases d with
  | lit l => cases l <;> simp[Rows.uptoBulk]
  | _ => simp[Rows.uptoBulk]
theorem acC{H : Type}(l : List (DataW H)) : l.length <= Rows.uptoBulkAll l := by
  induction l with
  | nil => simp[Rows.uptoBulkAll]
  | cons x r aK => have := one_le x; simp only[Rows.uptoBulkAll, List.length_cons]; omega
theorem acD(H : Type) : BP (Rows.uptoBulk (H := H)) where
  len := λe s => by have := acC e; simp only[Rows.uptoBulk]; omega
  BQ := λe s d h => by have := JX h; simp only[Rows.uptoBulk]; omega
  Rh := λl d h => by have := JX h; simp only[Rows.uptoBulk]; omega
theorem acE{s : bG}(h : ad.hB mf s) : e8 s := by
  obtain⟨⟨⟨E, _⟩, ⟨U, ag⟩, _, ⟨a6, _⟩⟩, ⟨bM, _⟩, ⟨dn, fT⟩, ⟨jh, p0⟩, ⟨acF, _⟩, _⟩ := h;exact⟨⟨E, U, a6, λm hm => ⟨(ag m hm).1, λs aE => ((ag m hm).2 s aE).2.1.1⟩⟩, bM, dn, jh, acF, λp ao => (fT p ao).2.2.2.2.1, λx ah => (p0 x ah).1.1⟩
theorem acG{c : H.a1}(h : ad.hB tr c) : H.iy c := by
  obtain⟨⟨E, _⟩, ⟨U, _⟩, ⟨ag, _⟩, ⟨a6, _⟩, _⟩ := h;exact⟨E, U, ag, a6⟩
theorem acH{au : World}(ah : laidMetH Tryz.prog Rows.topTrialsRow.laid au) : Lib.TabIs Tryz.prog au "internal/strconv.uint64pow10" .u64 Lib.pow10Tab := by
  rw[MakeChecks.laidMetH_plain _ _ _ (by kernel_rfl)]at ah;obtain⟨_, ae, _⟩ := ah;obtain⟨g, t, cs, ck, p, E, U, ag, a6⟩ := JY ae "internal/strconv.uint64pow10" Rows.laid_internal_strconv_uint64pow10 (by simp[Rows.topTrialsRow]);obtain rfl := Option.some.inj ((show Tryz.prog.globalNamed "internal/strconv.uint64pow10" = some 5 by kernel_rfl).symm.trans E);obtain rfl := Option.some.inj ((show (Tryz.prog.globals[5]?).map (·.type) = some 418 by kernel_rfl).symm.trans U);unfold Lib.TabIs;rw[ag, <- Lib.cells_of_tab (zs := Lib.pow10Tab) Tryz.underlying418 Tryz.underlying285 (by kernel_rfl) (by kernel_rfl) a6]
theorem Ri{au : World}(ah : laidMetH Tryz.prog Rows.topTrialsRow.laid au){n : String}{d : DataW Unit}{b : Nat}(hm : (n, d) ∈ Rows.topTrialsRow.laid)(W : Tryz.prog.globalNamed n = some b)(aI : (Tryz.prog.globals[b]?).map (·.type) = some 266) : ∃ v, au.cell? ⟨b, 0, none⟩ = some v /\ (v = .nilIface \/ ∃ lK mg, v = .iface lK mg) := by
  rw[MakeChecks.laidMetH_plain _ _ _ (by kernel_rfl)]at ah;obtain⟨_, ae, _⟩ := ah;obtain⟨g, t, cs, ck, p, E, U, ag, a6⟩ := JY ae n d hm;obtain rfl := Option.some.inj (W.symm.trans E);obtain rfl := Option.some.inj (aI.symm.trans U);exact acI W ag ⟨_, Tryz.underlying266⟩ a6
theorem lifted(os : Os)(started : os.Started)(H : Type)(enc : TypeId × Value -> H) :
    ReturnsInHanded {} Tryz.checked os 3 .any (λw args => (Rows.topTrialsSpec.pre enc Tryz.prog Tryz.f3 Rows.topTrialsRow.domain false w args /\ laidMetH Tryz.prog Rows.topTrialsRow.laid w) /\ sizedMet enc Tryz.prog Tryz.f3 (OpenSpec.ofChange Rows.topTrialsSpec) false w args)
      (Rows.topTrialsSpec.post enc Tryz.prog Tryz.f3 false true false false) := by
  refine acJ (C := Tryz.checked) (X := λw _ => laidMetH Tryz.prog Rows.topTrialsRow.laid w) (λ_ _ _ cW h => h.of_heap cW) al started (by kernel_rfl) Tryz.func3
    (ChangeSpec.witness_shaped (enc := enc) (C := Tryz.checked) (os := os) (X := λw _ => laidMetH Tryz.prog Rows.topTrialsRow.laid w) false (World.laidAll Tryz.prog os Rows.topTrialsRow.laid) #[.agg #[.slice none 0 0, .slice none 0 0, .int .i64 0, .slice none 0 0, .slice none 0 0, .slice none 0 0, .slice none 0 0, .slice none 0 0, .int .i64 0, .slice none 0 0, .slice none 0 0, .slice none 0 0, .slice none 0 0, .int .i64 0, .int .i64 0, .int .i64 0, .int .i64 0, .int .i64 0, .int .i64 0, .int .i64 0], .agg #[.int .i64 0, .int .i64 0, .int .i64 0, .int .i64 0]] 3 (World.laidAll_os _ _ _)
      (World.shaped_of_ZipB (by kernel_rfl) (by kernel_rfl)) (by kernel_rfl) (by kernel_rfl) (by kernel_rfl)
      (by rw[MakeChecks.laidMetH_plain _ _ _ (by kernel_rfl)]; exact laidMet_laidAll _ (by kernel_rfl) (by kernel_rfl))) ?_
  intro au base args bk gs before acK wT nH ah;exact acL (acD H) (N := Rows.uptoBulkAll bk) (ts := .az wU tt) (rt := 4) (by kernel_rfl) acM (λx ah _ => acB (Go.Fer.au.acN x (acE ah.1.1) (acG ah.1.2)) rfl) (by kernel_rfl) (by kernel_rfl) rfl (by kernel_rfl) rfl (λH bk h => by
    obtain⟨d1, e2, rfl⟩ : ∃ d l, bk = d :: l := by cases bk with | nil => simp[Tryz.f3]at h | cons d l => exact⟨d, l, rfl⟩
    obtain⟨d2, oj, rfl⟩ : ∃ d l, e2 = d :: l := by cases e2 with | nil => simp[Tryz.f3]at h | cons d l => exact⟨d, l, rfl⟩
    have : oj = [] := by cases oj with | nil => rfl | cons d l => simp[Tryz.f3]at h
    subst this;rfl) acK wT (λd aw => JX aw) (acO nH (Ri ah (n := "strconv.ErrSyntax") (d := Rows.laid_strconv_ErrSyntax) (by simp[Rows.topTrialsRow]) (by kernel_rfl) (by kernel_rfl)) (Ri ah (n := "strconv.ErrRange") (d := Rows.laid_strconv_ErrRange) (by simp[Rows.topTrialsRow]) (by kernel_rfl) (by kernel_rfl)) (acH ah))
theorem gm : Rows.TopTrialsSaid :=
  OpenClaim.holds_of_wide 3 Tryz.f3 rfl rfl rfl rfl rfl rfl rfl ⟨rfl, rfl, rfl, rfl, rfl⟩ rfl rfl rfl rfl rfl a12 Tryz.func3 acy acz acA
    (λos started H enc _ => lifted os started H enc)
theorem proved : Rows.TopTrialsCardSaid :=
  Claim7.holds_tied_plain_at .lb [] [.data, .data, .data, .data, .sentinel, .sentinel, .pinned] true Rows.topTrialsCard.stood.harness true gm (λ_ h => by cases h) hA (λ_ h => by cases h) topTrials_row_tie rfl ⟨rfl, rfl⟩ (by kernel_rfl) rfl
    (λf fn aq tu => by
      obtain rfl : f = 3 := Option.some.inj (a12.symm.trans aq) |>.symm;obtain rfl : fn = Tryz.f3 := (Option.some.inj (Tryz.func3.symm.trans tu)).symm;exact⟨a9, λj t aI => by
        rw[Tryz.params3]at aI;have hm : t ∈ [40, 42] := by simpa using Array.mem_of_getElem? aI
        have fU : ([40, 42].all λu => !Tryz.prog.wantsStandIn u) = true := by kernel_rfl
        exact (show Tryz.prog.wantsStandIn t = false by simpa using List.all_eq_true.1 fU t hm)⟩)
    acx
end Go.Proofs.YtplfnoecifjgeaaGreatDoor.TopTrialsProof
