/- TopSlips returns true for every input, and leaves its arguments as they were; the row lists variables, tied by the card. No condition. -/
import Derived.Test.YtplfnoecifjgeaaGreatDoorTopSlipsG
import Derived.Test.YtplfnoecifjgeaaGreatDoorRows
import Derived.Test.YtplfnoecifjgeaaGreatDoorTie
import Derived.Test.YtplfnoecifjgeaaGreatDoorCards
import Derived.WalkKit
import Derived.ProofKit
import Derived.OpenShut
import Derived.LaidMore
import Derived.Lay
import Derived.SevenTiedAt
import Derived.Stop.Joined
import Derived.Test.YtplfnoecifjgeaaGreatDoorTopSlipsx
import Derived.Test.YtplfnoecifjgeaaGreatDoorTopSlipsy
set_option linter.unusedVariables false
set_option linter.unusedSimpArgs false
namespace Go.Proofs.YtplfnoecifjgeaaGreatDoor.TopSlipsProof
open Go.ChangeShapes Go.WideShapes Go.ChangeAt Go.RowKit Go.Fer Go.Fer.ox
set_option maxRecDepth 100000
theorem own : ownKnob Tryz.prog.godebug = none := by kernel_rfl
theorem acK{an : Type}{m : A an}{v : an}{p : an -> Prop}(h : m = A.pure v)(aq : p v) : A.cy m p := by rw[h]; exact A.eb.2 aq
theorem JX{H : Type}{d : DataW H}{l : List (DataW H)}(h : d ∈ l) : Rows.uptoBulk d <= Rows.uptoBulkAll l := by
  induction l with
  | nil => cases h
  | cons x r aL =>
    simp only[Rows.uptoBulkAll];rcases List.mem_cons.1 h with rfl | e
    · omega
    · have := aL e; omega
theorem one_le{H : Type}(d : DataW H) : 1 <= Rows.uptoBulk d := by
  cases d with
  | lit l => cases l <;> simp[Rows.uptoBulk]
  | _ => simp[Rows.uptoBulk]
theorem acL{H : Type}(l : List (DataW H)) : l.length <= Rows.uptoBulkAll l := by
  induction l with
  | nil => simp[Rows.uptoBulkAll]
  | cons x r aL => have := one_le x; simp only[Rows.uptoBulkAll, List.length_cons]; omega
theorem acM(H : Type) : BR (Rows.uptoBulk (H := H)) where
  len := λe s => by have := acL e; simp only[Rows.uptoBulk]; omega
  BS := λe s d h => by have := JX h; simp only[Rows.uptoBulk]; omega
  Rn := λl d h => by have := JX h; simp only[Rows.uptoBulk]; omega
theorem acN{s : bJ}(h : ad.hE t32 s) : fB s := by
  obtain⟨⟨⟨E, _⟩, ⟨U, ah⟩, _, ⟨a6, _⟩⟩, ⟨bL, _⟩, ⟨dv, gl⟩, ⟨jj, p7⟩, ⟨JY, _⟩, _⟩ := h;exact⟨⟨E, U, a6, λm hm => ⟨(ah m hm).1, λs aD => ((ah m hm).2 s aD).2.1.1⟩⟩, bL, dv, jj, JY, λp aq => (gl p aq).2.2.2.2.1, λx ai => (p7 x ai).1.1⟩
theorem acO{c : H.aX}(h : ad.hE tu c) : H.jE c := by
  obtain⟨⟨E, _⟩, ⟨U, _⟩, ⟨ah, _⟩, ⟨a6, _⟩, _⟩ := h;exact⟨E, U, ah, a6⟩
theorem acP{aw : World}(ai : laidMetH Tryz.prog Rows.topSlipsRow.laid aw) : Lib.TabIs Tryz.prog aw "internal/strconv.uint64pow10" .u64 Lib.pow10Tab := by
  rw[MakeChecks.laidMetH_plain _ _ _ (by kernel_rfl)]at ai;obtain⟨_, af, _⟩ := ai;obtain⟨g, t, cs, cg, p, E, U, ah, a6⟩ := JZ af "internal/strconv.uint64pow10" Rows.laid_internal_strconv_uint64pow10 (by simp[Rows.topSlipsRow]);obtain rfl := Option.some.inj ((show Tryz.prog.globalNamed "internal/strconv.uint64pow10" = some 5 by kernel_rfl).symm.trans E);obtain rfl := Option.some.inj ((show (Tryz.prog.globals[5]?).map (·.type) = some 418 by kernel_rfl).symm.trans U);unfold Lib.TabIs;rw[ah, <- Lib.cells_of_tab (zs := Lib.pow10Tab) Tryz.underlying418 Tryz.underlying285 (by kernel_rfl) (by kernel_rfl) a6]
theorem Ro{aw : World}(ai : laidMetH Tryz.prog Rows.topSlipsRow.laid aw){n : String}{d : DataW Unit}{b : Nat}(hm : (n, d) ∈ Rows.topSlipsRow.laid)(aa : Tryz.prog.globalNamed n = some b)(aF : (Tryz.prog.globals[b]?).map (·.type) = some 266) : ∃ v, aw.cell? ⟨b, 0, none⟩ = some v /\ (v = .nilIface \/ ∃ lQ mi, v = .iface lQ mi) := by
  rw[MakeChecks.laidMetH_plain _ _ _ (by kernel_rfl)]at ai;obtain⟨_, af, _⟩ := ai;obtain⟨g, t, cs, cg, p, E, U, ah, a6⟩ := JZ af n d hm;obtain rfl := Option.some.inj (aa.symm.trans E);obtain rfl := Option.some.inj (aF.symm.trans U);exact acQ aa ah ⟨_, Tryz.underlying266⟩ a6
theorem lifted(os : Os)(started : os.Started)(H : Type)(enc : TypeId × Value -> H) :
    ReturnsInHanded {} Tryz.checked os 4 .any (λw args => (Rows.topSlipsSpec.pre enc Tryz.prog Tryz.f4 Rows.topSlipsRow.domain false w args /\ laidMetH Tryz.prog Rows.topSlipsRow.laid w) /\ sizedMet enc Tryz.prog Tryz.f4 (OpenSpec.ofChange Rows.topSlipsSpec) false w args)
      (Rows.topSlipsSpec.post enc Tryz.prog Tryz.f4 false true false false) := by
  refine acR (C := Tryz.checked) (X := λw _ => laidMetH Tryz.prog Rows.topSlipsRow.laid w) (λ_ _ _ cV h => h.of_heap cV) own started (by kernel_rfl) Tryz.func4
    (ChangeSpec.witness_shaped (enc := enc) (C := Tryz.checked) (os := os) (X := λw _ => laidMetH Tryz.prog Rows.topSlipsRow.laid w) false (World.laidAll Tryz.prog os Rows.topSlipsRow.laid) #[.agg #[.slice none 0 0, .slice none 0 0, .int .i64 0, .slice none 0 0, .slice none 0 0, .slice none 0 0, .slice none 0 0, .slice none 0 0, .int .i64 0, .slice none 0 0, .slice none 0 0, .slice none 0 0, .slice none 0 0, .int .i64 0, .int .i64 0, .int .i64 0, .int .i64 0, .int .i64 0, .int .i64 0, .int .i64 0], .agg #[.int .i64 0, .int .i64 0, .int .i64 0, .int .i64 0]] 4 (World.laidAll_os _ _ _)
      (World.shaped_of_ZipB (by kernel_rfl) (by kernel_rfl)) (by kernel_rfl) (by kernel_rfl) (by kernel_rfl)
      (by rw[MakeChecks.laidMetH_plain _ _ _ (by kernel_rfl)]; exact laidMet_laidAll _ (by kernel_rfl) (by kernel_rfl))) ?_
  intro aw base args bk gs before acS wX nO ai;exact acT (acM H) (N := Rows.uptoBulkAll bk) (ts := .aB wY J0) (rt := 4) (by kernel_rfl) acU (λx ai _ => acK (Go.Fer.aw.acV x (acN ai.1.1) (acO ai.1.2)) rfl) (by kernel_rfl) (by kernel_rfl) rfl (by kernel_rfl) rfl (λH bk h => by
    obtain⟨d1, eF, rfl⟩ : ∃ d l, bk = d :: l := by cases bk with | nil => simp[Tryz.f4]at h | cons d l => exact⟨d, l, rfl⟩
    obtain⟨d2, mj, rfl⟩ : ∃ d l, eF = d :: l := by cases eF with | nil => simp[Tryz.f4]at h | cons d l => exact⟨d, l, rfl⟩
    have : mj = [] := by cases mj with | nil => rfl | cons d l => simp[Tryz.f4]at h
    subst this;rfl) acS wX (λd au => JX au) (acW nO (Ro ai (n := "strconv.ErrSyntax") (d := Rows.laid_strconv_ErrSyntax) (by simp[Rows.topSlipsRow]) (by kernel_rfl) (by kernel_rfl)) (Ro ai (n := "strconv.ErrRange") (d := Rows.laid_strconv_ErrRange) (by simp[Rows.topSlipsRow]) (by kernel_rfl) (by kernel_rfl)) (acP ai))
theorem gm : Rows.TopSlipsSaid :=
  OpenClaim.holds_of_wide 4 Tryz.f4 rfl rfl rfl rfl rfl rfl rfl ⟨rfl, rfl, rfl, rfl, rfl⟩ rfl rfl rfl rfl rfl a12 Tryz.func4 acH acI acJ
    (λos started H enc _ => lifted os started H enc)
theorem proved : Rows.TopSlipsCardSaid :=
  Claim7.holds_tied_plain_at .later [] [.data, .data, .data, .data, .sentinel, .sentinel, .pinned] true Rows.topSlipsCard.stood.harness true gm (λ_ h => by cases h) hD (λ_ h => by cases h) topSlips_row_tie rfl ⟨rfl, rfl⟩ (by kernel_rfl) rfl
    (λf fn ao tv => by
      obtain rfl : f = 4 := Option.some.inj (a12.symm.trans ao) |>.symm;obtain rfl : fn = Tryz.f4 := (Option.some.inj (Tryz.func4.symm.trans tv)).symm;exact⟨a9, λj t aF => by
        rw[Tryz.params4]at aF;have hm : t ∈ [40, 63] := by simpa using Array.mem_of_getElem? aF
        have fT : ([40, 63].all λu => !Tryz.prog.wantsStandIn u) = true := by kernel_rfl
        exact (show Tryz.prog.wantsStandIn t = false by simpa using List.all_eq_true.1 fT t hm)⟩)
    acG
end Go.Proofs.YtplfnoecifjgeaaGreatDoor.TopSlipsProof
