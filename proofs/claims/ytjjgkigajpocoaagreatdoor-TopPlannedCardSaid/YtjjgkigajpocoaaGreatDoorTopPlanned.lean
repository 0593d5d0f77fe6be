/- TopPlanned returns true for every input, and leaves its arguments as they were; the row lists variables, tied by the card. No condition. -/
import Derived.Test.YtjjgkigajpocoaaGreatDoorTopPlannedH
import Derived.Test.YtjjgkigajpocoaaGreatDoorRows
import Derived.Test.YtjjgkigajpocoaaGreatDoorTie
import Derived.Test.YtjjgkigajpocoaaGreatDoorCards
import Derived.WalkKit
import Derived.ProofKit
import Derived.OpenShut
import Derived.LaidMore
import Derived.Lay
import Derived.SevenTiedAt
import Derived.Stop.Joined
import Derived.Test.YtjjgkigajpocoaaGreatDoorTopPlannedx
import Derived.Test.YtjjgkigajpocoaaGreatDoorTopPlannedy
import Derived.Test.YtjjgkigajpocoaaGreatDoorTopPlannedz
import Derived.Test.YtjjgkigajpocoaaGreatDoorTopPlannedu
import Derived.Test.YtjjgkigajpocoaaGreatDoorTopPlannedv
import Derived.Test.YtjjgkigajpocoaaGreatDoorTopPlannedw
set_option linter.unusedVariables false
set_option linter.unusedSimpArgs false
namespace Go.Proofs.YtjjgkigajpocoaaGreatDoor.TopPlannedProof
open Go.ChangeShapes Go.WideShapes Go.ChangeAt Go.RowKit Go.Fer Go.Fer.Sk
set_option maxRecDepth 100000
theorem own : ownKnob Tryz.prog.godebug = none := by kernel_rfl
theorem amo{ag : Type}{m : M ag}{v : ag}{p : ag -> Prop}(h : m = mpure v)(ai : p v) : c' m p := by rw[h]; exact dO.2 ai
theorem Pv{H : Type}{d : DataW H}{l : List (DataW H)}(h : d ∈ l) : Rows.uptoBulk d <= Rows.uptoBulkAll l := by
  induction l with
  | nil => cases h
  | cons x r aP =>
    simp only[Rows.uptoBulkAll];rcases List.mem_cons.1 h with rfl | e
    · omega
    · have := aP e; omega
theorem amp{H : Type}(d : DataW H) : 1 <= Rows.uptoBulk d := by
  cases d with
  | lit l => cases l <;> simp[Rows.uptoBulk]
  | _ => simp[Rows.uptoBulk]
theorem amq{H : Type}(l : List (DataW H)) : l.length <= Rows.uptoBulkAll l := by
  induction l with
  | nil => simp[Rows.uptoBulkAll]
  | cons x r aP => have := amp x; simp only[Rows.uptoBulkAll, List.length_cons]; omega
theorem amr(H : Type) : Fy (Rows.uptoBulk (H := H)) where
  len := λe s => by have := amq e; simp only[Rows.uptoBulk]; omega
  JR := λe s d h => by have := Pv h; simp only[Rows.uptoBulk]; omega
  XZ := λl d h => by have := Pv h; simp only[Rows.uptoBulk]; omega
theorem ams{s : bJ}(h : V.jZ t32 s) : gI s := by
  obtain⟨⟨⟨E, _⟩, ⟨L, an⟩, _, ⟨a6, _⟩⟩, ⟨bS, _⟩, ⟨ek, iQ⟩, ⟨k6, zQ⟩, ⟨Pw, _⟩, _⟩ := h;exact⟨⟨E, L, a6, λm hm => ⟨(an m hm).1, λs az => ((an m hm).2 s az).2.1.1⟩⟩, bS, ek, k6, Pw, λp ai => (iQ p ai).2.2.2.2.1, λx al => (zQ x al).1.1⟩
theorem amt{c : H.bg}(h : V.jZ wP c) : H.lD c := by
  obtain⟨⟨E, _⟩, ⟨L, _⟩, ⟨an, _⟩, ⟨a6, _⟩, _⟩ := h;exact⟨E, L, an, a6⟩
theorem amu{W : World}(al : laidMetH Tryz.prog Rows.topPlannedRow.laid W) : Lib.TabIs Tryz.prog W "internal/strconv.uint64pow10" .u64 Lib.pow10Tab := by
  rw[MakeChecks.laidMetH_plain _ _ _ (by kernel_rfl)]at al;obtain⟨_, af, _⟩ := al;obtain⟨g, t, cs, cZ, p, E, L, an, a6⟩ := Px af "internal/strconv.uint64pow10" Rows.laid_internal_strconv_uint64pow10 (by simp[Rows.topPlannedRow]);obtain rfl := Option.some.inj ((show Tryz.prog.globalNamed "internal/strconv.uint64pow10" = some 5 by kernel_rfl).symm.trans E);obtain rfl := Option.some.inj ((show (Tryz.prog.globals[5]?).map (·.type) = some 419 by kernel_rfl).symm.trans L);unfold Lib.TabIs;rw[an, <- Lib.cells_of_tab (zs := Lib.pow10Tab) Tryz.underlying419 Tryz.underlying349 (by kernel_rfl) (by kernel_rfl) a6]
theorem X0{W : World}(al : laidMetH Tryz.prog Rows.topPlannedRow.laid W){n : String}{d : DataW Unit}{b : Nat}(hm : (n, d) ∈ Rows.topPlannedRow.laid)(U : Tryz.prog.globalNamed n = some b)(aH : (Tryz.prog.globals[b]?).map (·.type) = some 160) : ∃ v, W.cell? ⟨b, 0, none⟩ = some v /\ (v = .nilIface \/ ∃ nW oB, v = .iface nW oB) := by
  rw[MakeChecks.laidMetH_plain _ _ _ (by kernel_rfl)]at al;obtain⟨_, af, _⟩ := al;obtain⟨g, t, cs, cZ, p, E, L, an, a6⟩ := Px af n d hm;obtain rfl := Option.some.inj (U.symm.trans E);obtain rfl := Option.some.inj (aH.symm.trans L);exact amv U an ⟨_, Tryz.underlying160⟩ a6
theorem lifted(os : Os)(started : os.Started)(H : Type)(enc : TypeId × Value -> H) :
    ReturnsInHanded {} Tryz.checked os 5 .any (λw args => (Rows.topPlannedSpec.pre enc Tryz.prog Tryz.f5 Rows.topPlannedRow.domain false w args /\ laidMetH Tryz.prog Rows.topPlannedRow.laid w) /\ sizedMet enc Tryz.prog Tryz.f5 (OpenSpec.ofChange Rows.topPlannedSpec) false w args)
      (Rows.topPlannedSpec.post enc Tryz.prog Tryz.f5 false true false false) := by
  refine amw (C := Tryz.checked) (X := λw _ => laidMetH Tryz.prog Rows.topPlannedRow.laid w) (λ_ _ _ dh h => h.of_heap dh) own started (by kernel_rfl) Tryz.func5
    (ChangeSpec.witness_shaped (enc := enc) (C := Tryz.checked) (os := os) (X := λw _ => laidMetH Tryz.prog Rows.topPlannedRow.laid w) false (World.laidAll Tryz.prog os Rows.topPlannedRow.laid) #[.agg #[.slice none 0 0, .slice none 0 0, .int .i64 0, .slice none 0 0, .slice none 0 0, .slice none 0 0, .slice none 0 0, .slice none 0 0, .int .i64 0, .slice none 0 0, .slice none 0 0, .slice none 0 0, .slice none 0 0, .int .i64 0, .int .i64 0, .int .i64 0, .int .i64 0, .int .i64 0, .int .i64 0, .int .i64 0], .slice none 0 0] 9 (World.laidAll_os _ _ _)
      (World.shaped_of_ZipB (by kernel_rfl) (by kernel_rfl)) (by kernel_rfl) (by kernel_rfl) (by kernel_rfl)
      (by rw[MakeChecks.laidMetH_plain _ _ _ (by kernel_rfl)]; exact laidMet_laidAll _ (by kernel_rfl) (by kernel_rfl))) ?_
  intro W base args bC gs before amx wQ j0 al;exact amy (amr H) (N := Rows.uptoBulkAll bC) (ts := .ar zR Py) (rt := 4) (by kernel_rfl) amz (λx al _ => amo (amA x (ams al.1.1) (amt al.1.2)) rfl) (by kernel_rfl) (by kernel_rfl) rfl (by kernel_rfl) rfl (λH bC h => by
    obtain⟨d1, fq, rfl⟩ : ∃ d l, bC = d :: l := by cases bC with | nil => simp[Tryz.f5]at h | cons d l => exact⟨d, l, rfl⟩
    obtain⟨d2, gD, rfl⟩ : ∃ d l, fq = d :: l := by cases fq with | nil => simp[Tryz.f5]at h | cons d l => exact⟨d, l, rfl⟩
    have : gD = [] := by cases gD with | nil => rfl | cons d l => simp[Tryz.f5]at h
    subst this;rfl) amx wQ (λd ax => Pv ax) (amB j0 (X0 al (n := "strconv.ErrSyntax") (d := Rows.laid_strconv_ErrSyntax) (by simp[Rows.topPlannedRow]) (by kernel_rfl) (by kernel_rfl)) (X0 al (n := "strconv.ErrRange") (d := Rows.laid_strconv_ErrRange) (by simp[Rows.topPlannedRow]) (by kernel_rfl) (by kernel_rfl)) (amu al))
theorem hU : Rows.TopPlannedSaid :=
  OpenClaim.holds_of_wide 5 Tryz.f5 rfl rfl rfl rfl rfl rfl rfl ⟨rfl, rfl, rfl, rfl, rfl⟩ rfl rfl rfl rfl rfl XY Tryz.func5 aml amm amn
    (λos started H enc _ => lifted os started H enc)
theorem proved : Rows.TopPlannedCardSaid :=
  Claim7.holds_tied_plain_at .later [] [.data, .data, .data, .data, .sentinel, .sentinel, .pinned] true Rows.topPlannedCard.stood.harness true hU (λ_ h => by cases h) jy (λ_ h => by cases h) topPlanned_row_tie rfl ⟨rfl, rfl⟩ (by kernel_rfl) rfl
    (λf fn ay hg => by
      obtain rfl : f = 5 := Option.some.inj (XY.symm.trans ay) |>.symm;obtain rfl : fn = Tryz.f5 := (Option.some.inj (Tryz.func5.symm.trans hg)).symm;exact⟨gC, λj t aH => by
        rw[Tryz.params5]at aH;have hm : t ∈ [40, 42] := by simpa using Array.mem_of_getElem? aH
        have gu : ([40, 42].all λu => !Tryz.prog.wantsStandIn u) = true := by kernel_rfl
        exact (show Tryz.prog.wantsStandIn t = false by simpa using List.all_eq_true.1 gu t hm)⟩)
    amk
end Go.Proofs.YtjjgkigajpocoaaGreatDoor.TopPlannedProof
