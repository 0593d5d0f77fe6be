/- FilesSeason returns true for every input, and leaves its arguments as they were; the row lists variables, tied by the card. No condition. -/
import Derived.Test.YtjjgkigajpocoaaGreatDoorFilesSeasonH
import Derived.Test.YtjjgkigajpocoaaGreatDoorRows
import Derived.Test.YtjjgkigajpocoaaGreatDoorTie
import Derived.Test.YtjjgkigajpocoaaGreatDoorCards
import Derived.WalkKit
import Derived.ProofKit
import Derived.OpenShut
import Derived.LaidMore
import Derived.Lay
import Derived.SevenTiedAt
import Derived.Stop.Joined
import Derived.Test.YtjjgkigajpocoaaGreatDoorFilesSeasonx
import Derived.Test.YtjjgkigajpocoaaGreatDoorFilesSeasony
import Derived.Test.YtjjgkigajpocoaaGreatDoorFilesSeasonz
import Derived.Test.YtjjgkigajpocoaaGreatDoorFilesSeasonu
import Derived.Test.YtjjgkigajpocoaaGreatDoorFilesSeasonv
import Derived.Test.YtjjgkigajpocoaaGreatDoorFilesSeasonw
set_option linter.unusedVariables false
set_option linter.unusedSimpArgs false
namespace Go.Proofs.YtjjgkigajpocoaaGreatDoor.FilesSeasonProof
open Go.ChangeShapes Go.WideShapes Go.ChangeAt Go.RowKit Go.Fer Go.Fer.Sk
set_option maxRecDepth 100000
theorem own : ownKnob Tryz.prog.godebug = none := by kernel_rfl
theorem amo{af : Type}{m : M af}{v : af}{p : af -> Prop}(h : m = mpure v)(aj : p v) : c6 m p := by rw[h]; exact dF.2 aj
theorem Pq{H : Type}{d : DataW H}{l : List (DataW H)}(h : d ∈ l) : Rows.uptoBulk d <= Rows.uptoBulkAll l := by
  induction l with
  | nil => cases h
  | cons x r aO =>
    simp only[Rows.uptoBulkAll];rcases List.mem_cons.1 h with rfl | e
    · omega
    · have := aO e; omega
theorem amp{H : Type}(d : DataW H) : 1 <= Rows.uptoBulk d := by
  cases d with
  | lit l => cases l <;> simp[Rows.uptoBulk]
  | _ => simp[Rows.uptoBulk]
theorem amq{H : Type}(l : List (DataW H)) : l.length <= Rows.uptoBulkAll l := by
  induction l with
  | nil => simp[Rows.uptoBulkAll]
  | cons x r aO => have := amp x; simp only[Rows.uptoBulkAll, List.length_cons]; omega
theorem amr(H : Type) : Fy (Rows.uptoBulk (H := H)) where
  len := λe s => by have := amq e; simp only[Rows.uptoBulk]; omega
  JK := λe s d h => by have := Pq h; simp only[Rows.uptoBulk]; omega
  X4 := λl d h => by have := Pq h; simp only[Rows.uptoBulk]; omega
theorem ams{s : bO}(h : V.j1 t32 s) : ij s := by
  obtain⟨⟨⟨E, _⟩, ⟨L, ak⟩, _, ⟨aZ, _⟩⟩, ⟨bP, _⟩, ⟨ej, iW⟩, ⟨kP, zT⟩, ⟨Pr, _⟩, _⟩ := h;exact⟨⟨E, L, aZ, λm hm => ⟨(ak m hm).1, λs ay => ((ak m hm).2 s ay).2.1.1⟩⟩, bP, ej, kP, Pr, λp aj => (iW p aj).2.2.2.2.1, λx ao => (zT x ao).1.1⟩
theorem amt{c : H.bd}(h : V.j1 wI c) : H.mL c := by
  obtain⟨⟨E, _⟩, ⟨L, _⟩, ⟨ak, _⟩, ⟨aZ, _⟩, _⟩ := h;exact⟨E, L, ak, aZ⟩
theorem amu{W : World}(ao : laidMetH Tryz.prog Rows.filesSeasonRow.laid W) : Lib.TabIs Tryz.prog W "internal/strconv.uint64pow10" .u64 Lib.pow10Tab := by
  rw[MakeChecks.laidMetH_plain _ _ _ (by kernel_rfl)]at ao;obtain⟨_, ae, _⟩ := ao;obtain⟨g, t, cs, cZ, p, E, L, ak, aZ⟩ := Ps ae "internal/strconv.uint64pow10" Rows.laid_internal_strconv_uint64pow10 (by simp[Rows.filesSeasonRow]);obtain rfl := Option.some.inj ((show Tryz.prog.globalNamed "internal/strconv.uint64pow10" = some 5 by kernel_rfl).symm.trans E);obtain rfl := Option.some.inj ((show (Tryz.prog.globals[5]?).map (·.type) = some 419 by kernel_rfl).symm.trans L);unfold Lib.TabIs;rw[ak, <- Lib.cells_of_tab (zs := Lib.pow10Tab) Tryz.underlying419 Tryz.underlying349 (by kernel_rfl) (by kernel_rfl) aZ]
theorem X5{W : World}(ao : laidMetH Tryz.prog Rows.filesSeasonRow.laid W){n : String}{d : DataW Unit}{b : Nat}(hm : (n, d) ∈ Rows.filesSeasonRow.laid)(U : Tryz.prog.globalNamed n = some b)(aG : (Tryz.prog.globals[b]?).map (·.type) = some 160) : ∃ v, W.cell? ⟨b, 0, none⟩ = some v /\ (v = .nilIface \/ ∃ nU oF, v = .iface nU oF) := by
  rw[MakeChecks.laidMetH_plain _ _ _ (by kernel_rfl)]at ao;obtain⟨_, ae, _⟩ := ao;obtain⟨g, t, cs, cZ, p, E, L, ak, aZ⟩ := Ps ae n d hm;obtain rfl := Option.some.inj (U.symm.trans E);obtain rfl := Option.some.inj (aG.symm.trans L);exact amv U ak ⟨_, Tryz.underlying160⟩ aZ
theorem lifted(os : Os)(started : os.Started)(H : Type)(enc : TypeId × Value -> H) :
    ReturnsInHanded {} Tryz.checked os 3 .any (λw args => (Rows.filesSeasonSpec.pre enc Tryz.prog Tryz.f3 Rows.filesSeasonRow.domain false w args /\ laidMetH Tryz.prog Rows.filesSeasonRow.laid w) /\ sizedMet enc Tryz.prog Tryz.f3 (OpenSpec.ofChange Rows.filesSeasonSpec) false w args)
      (Rows.filesSeasonSpec.post enc Tryz.prog Tryz.f3 false true false false) := by
  refine amw (C := Tryz.checked) (X := λw _ => laidMetH Tryz.prog Rows.filesSeasonRow.laid w) (λ_ _ _ df h => h.of_heap df) own started (by kernel_rfl) Tryz.func3
    (ChangeSpec.witness_shaped (enc := enc) (C := Tryz.checked) (os := os) (X := λw _ => laidMetH Tryz.prog Rows.filesSeasonRow.laid w) false (World.laidAll Tryz.prog os Rows.filesSeasonRow.laid) #[.agg #[.slice none 0 0, .slice none 0 0, .int .i64 0, .slice none 0 0, .slice none 0 0, .slice none 0 0, .slice none 0 0, .slice none 0 0, .int .i64 0, .slice none 0 0, .slice none 0 0, .slice none 0 0, .slice none 0 0, .int .i64 0, .int .i64 0, .int .i64 0, .int .i64 0, .int .i64 0, .int .i64 0, .int .i64 0], .slice none 0 0, .slice none 0 0] 9 (World.laidAll_os _ _ _)
      (World.shaped_of_ZipB (by kernel_rfl) (by kernel_rfl)) (by kernel_rfl) (by kernel_rfl) (by kernel_rfl)
      (by rw[MakeChecks.laidMetH_plain _ _ _ (by kernel_rfl)]; exact laidMet_laidAll _ (by kernel_rfl) (by kernel_rfl))) ?_
  intro W base args bB gs before amx wJ jg ao;exact amy (amr H) (N := Rows.uptoBulkAll bB) (ts := .au zU (.au mr Pt)) (rt := 4) (by kernel_rfl) amz (λx ao _ => amo (amA x (ams ao.1.1) (amt ao.1.2) ao.2.1.1) rfl) (by kernel_rfl) (by kernel_rfl) rfl (by kernel_rfl) rfl (λH bB h => by
    obtain⟨d1, fx, rfl⟩ : ∃ d l, bB = d :: l := by cases bB with | nil => simp[Tryz.f3]at h | cons d l => exact⟨d, l, rfl⟩
    obtain⟨d2, gB, rfl⟩ : ∃ d l, fx = d :: l := by cases fx with | nil => simp[Tryz.f3]at h | cons d l => exact⟨d, l, rfl⟩
    obtain⟨d3, JL, rfl⟩ : ∃ d l, gB = d :: l := by cases gB with | nil => simp[Tryz.f3]at h | cons d l => exact⟨d, l, rfl⟩
    have : JL = [] := by cases JL with | nil => rfl | cons d l => simp[Tryz.f3]at h
    subst this;rfl) amx wJ (λd aw => Pq aw) (amB jg (X5 ao (n := "strconv.ErrSyntax") (d := Rows.laid_strconv_ErrSyntax) (by simp[Rows.filesSeasonRow]) (by kernel_rfl) (by kernel_rfl)) (X5 ao (n := "strconv.ErrRange") (d := Rows.laid_strconv_ErrRange) (by simp[Rows.filesSeasonRow]) (by kernel_rfl) (by kernel_rfl)) (amu ao))
theorem hU : Rows.FilesSeasonSaid :=
  OpenClaim.holds_of_wide 3 Tryz.f3 rfl rfl rfl rfl rfl rfl rfl ⟨rfl, rfl, rfl, rfl, rfl⟩ rfl rfl rfl rfl rfl X3 Tryz.func3 aml amm amn
    (λos started H enc _ => lifted os started H enc)
theorem proved : Rows.FilesSeasonCardSaid :=
  Claim7.holds_tied_plain_at .later [] [.data, .data, .data, .data, .sentinel, .sentinel, .pinned] true Rows.filesSeasonCard.stood.harness true hU (λ_ h => by cases h) jy (λ_ h => by cases h) filesSeason_row_tie rfl ⟨rfl, rfl⟩ (by kernel_rfl) rfl
    (λf fn ax hi => by
      obtain rfl : f = 3 := Option.some.inj (X3.symm.trans ax) |>.symm;obtain rfl : fn = Tryz.f3 := (Option.some.inj (Tryz.func3.symm.trans hi)).symm;exact⟨gA, λj t aG => by
        rw[Tryz.params3]at aG;have hm : t ∈ [40, 41, 42] := by simpa using Array.mem_of_getElem? aG
        have gu : ([40, 41, 42].all λu => !Tryz.prog.wantsStandIn u) = true := by kernel_rfl
        exact (show Tryz.prog.wantsStandIn t = false by simpa using List.all_eq_true.1 gu t hm)⟩)
    amk
end Go.Proofs.YtjjgkigajpocoaaGreatDoor.FilesSeasonProof
