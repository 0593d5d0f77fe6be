/- ForewomanHalves returns true for every input, and leaves its arguments as they were; the row lists variables, tied by the card. No condition. -/
import Derived.Test.YtplfnoecifjgeaaGreatDoorHalvesG
import Derived.Test.YtplfnoecifjgeaaGreatDoorRows
import Derived.Test.YtplfnoecifjgeaaGreatDoorTie
import Derived.Test.YtplfnoecifjgeaaGreatDoorCards
import Derived.WalkKit
import Derived.ProofKit
import Derived.OpenShut
import Derived.LaidMore
import Derived.Lay
import Derived.SevenTiedAt
import Derived.Stop.Joined
import Derived.Test.YtplfnoecifjgeaaGreatDoorHalvesx
import Derived.Test.YtplfnoecifjgeaaGreatDoorHalvesy
set_option linter.unusedVariables false
set_option linter.unusedSimpArgs false
namespace Go.Proofs.YtplfnoecifjgeaaGreatDoor.ForewomanHalvesProof
open Go.ChangeShapes Go.WideShapes Go.ChangeAt Go.RowKit Go.Fer Go.Fer.nT
set_option maxRecDepth 100000
theorem own : ownKnob Tryz.prog.godebug = none := by kernel_rfl
theorem abv{ai : Type}{m : M ai}{v : ai}{p : ai -> Prop}(h : m = M.pure v)(hp : p v) : M.b9 m p := by rw[h]; exact M.dC.2 hp
theorem Jg{H : Type}{d : DataW H}{l : List (DataW H)}(h : d ∈ l) : Rows.uptoBulk d <= Rows.uptoBulkAll l := by
  induction l with
  | nil => cases h
  | cons x r aG =>
    simp only[Rows.uptoBulkAll];rcases List.mem_cons.1 h with rfl | e
    · omega
    · have := aG e; omega
theorem abw{H : Type}(d : DataW H) : 1 <= Rows.uptoBulk d := by
  cases d with
  | lit l => cases l <;> simp[Rows.uptoBulk]
  | _ => simp[Rows.uptoBulk]
theorem abx{H : Type}(l : List (DataW H)) : l.length <= Rows.uptoBulkAll l := by
  induction l with
  | nil => simp[Rows.uptoBulkAll]
  | cons x r aG => have := abw x; simp only[Rows.uptoBulkAll, List.length_cons]; omega
theorem aby(H : Type) : Bc (Rows.uptoBulk (H := H)) where
  len := λe s => by have := abx e; simp only[Rows.uptoBulk]; omega
  Bd := λe s d h => by have := Jg h; simp only[Rows.uptoBulk]; omega
  Qw := λl d h => by have := Jg h; simp only[Rows.uptoBulk]; omega
theorem abz{s : bq}(h : ad.Ok t32 s) : e' s := by
  obtain⟨⟨⟨h1, _⟩, ⟨h2, h3⟩, _, ⟨aQ, _⟩⟩, ⟨bu, _⟩, ⟨cW, fK⟩, ⟨iS, pF⟩, ⟨abA, _⟩, _⟩ := h;exact⟨⟨h1, h2, aQ, λm aj => ⟨(h3 m aj).1, λs hs => ((h3 m aj).2 s hs).2.1.1⟩⟩, bu, cW, iS, abA, λp hp => (fK p hp).2.2.2.2.1, λx hx => (pF x hx).1.1⟩
theorem abB{c : H.aP}(h : ad.Ok sM c) : H.h' c := by
  obtain⟨⟨h1, _⟩, ⟨h2, _⟩, ⟨h3, _⟩, ⟨aQ, _⟩, _⟩ := h;exact⟨h1, h2, h3, aQ⟩
theorem abC{W : World}(hx : laidMetH Tryz.prog Rows.forewomanHalvesRow.laid W) : Lib.TabIs Tryz.prog W "internal/strconv.uint64pow10" .u64 Lib.pow10Tab := by
  rw[MakeChecks.laidMetH_plain _ _ _ (by kernel_rfl)]at hx;obtain⟨_, hv, _⟩ := hx;obtain⟨g, t, cs, bW, p, h1, h2, h3, aQ⟩ := Jh hv "internal/strconv.uint64pow10" Rows.laid_internal_strconv_uint64pow10 (by simp[Rows.forewomanHalvesRow]);obtain rfl := Option.some.inj ((show Tryz.prog.globalNamed "internal/strconv.uint64pow10" = some 5 by kernel_rfl).symm.trans h1);obtain rfl := Option.some.inj ((show (Tryz.prog.globals[5]?).map (·.type) = some 418 by kernel_rfl).symm.trans h2);unfold Lib.TabIs;rw[h3, <- Lib.cells_of_tab (zs := Lib.pow10Tab) Tryz.underlying418 Tryz.underlying285 (by kernel_rfl) (by kernel_rfl) aQ]
theorem Qx{W : World}(hx : laidMetH Tryz.prog Rows.forewomanHalvesRow.laid W){n : String}{d : DataW Unit}{b : Nat}(aj : (n, d) ∈ Rows.forewomanHalvesRow.laid)(aa : Tryz.prog.globalNamed n = some b)(aF : (Tryz.prog.globals[b]?).map (·.type) = some 266) : ∃ v, W.cell? ⟨b, 0, none⟩ = some v /\ (v = .nilIface \/ ∃ te pe, v = .iface te pe) := by
  rw[MakeChecks.laidMetH_plain _ _ _ (by kernel_rfl)]at hx;obtain⟨_, hv, _⟩ := hx;obtain⟨g, t, cs, bW, p, h1, h2, h3, aQ⟩ := Jh hv n d aj;obtain rfl := Option.some.inj (aa.symm.trans h1);obtain rfl := Option.some.inj (aF.symm.trans h2);exact abD aa h3 ⟨_, Tryz.underlying266⟩ aQ
theorem lifted(os : Os)(started : os.Started)(H : Type)(enc : TypeId × Value -> H) :
    ReturnsInHanded {} Tryz.checked os 5 .any (λw args => (Rows.forewomanHalvesSpec.pre enc Tryz.prog Tryz.f5 Rows.forewomanHalvesRow.domain false w args /\ laidMetH Tryz.prog Rows.forewomanHalvesRow.laid w) /\ sizedMet enc Tryz.prog Tryz.f5 (OpenSpec.ofChange Rows.forewomanHalvesSpec) false w args)
      (Rows.forewomanHalvesSpec.post enc Tryz.prog Tryz.f5 false true false false) := by
  refine abE (C := Tryz.checked) (X := λw _ => laidMetH Tryz.prog Rows.forewomanHalvesRow.laid w) (λ_ _ _ cy h => h.of_heap cy) own started (by kernel_rfl) Tryz.func5
    (ChangeSpec.witness_shaped (enc := enc) (C := Tryz.checked) (os := os) (X := λw _ => laidMetH Tryz.prog Rows.forewomanHalvesRow.laid w) false (World.laidAll Tryz.prog os Rows.forewomanHalvesRow.laid) #[.agg #[.slice none 0 0, .slice none 0 0, .int .i64 0, .slice none 0 0, .slice none 0 0, .slice none 0 0, .slice none 0 0, .slice none 0 0, .int .i64 0, .slice none 0 0, .slice none 0 0, .slice none 0 0, .slice none 0 0, .int .i64 0, .int .i64 0, .int .i64 0, .int .i64 0, .int .i64 0, .int .i64 0, .int .i64 0], .slice none 0 0, .int .i64 0] 5 (World.laidAll_os _ _ _)
      (World.shaped_of_ZipB (by kernel_rfl) (by kernel_rfl)) (by kernel_rfl) (by kernel_rfl) (by kernel_rfl)
      (by rw[MakeChecks.laidMetH_plain _ _ _ (by kernel_rfl)]; exact laidMet_laidAll _ (by kernel_rfl) (by kernel_rfl))) ?_
  intro W base args a7 gs before abF wb nh hx;exact abG (aby H) (N := Rows.uptoBulkAll a7) (ts := .aw wc (.aw EB t3)) (rt := 4) (by kernel_rfl) abH (λx hx _ => abv (Go.Fer.W.abI x (abz hx.1.1) (abB hx.1.2) hx.2.1.1) rfl) (by kernel_rfl) (by kernel_rfl) rfl (by kernel_rfl) rfl (λH a7 h => by
    obtain⟨d1, eD, rfl⟩ : ∃ d l, a7 = d :: l := by cases a7 with | nil => simp[Tryz.f5]at h | cons d l => exact⟨d, l, rfl⟩
    obtain⟨d2, nU, rfl⟩ : ∃ d l, eD = d :: l := by cases eD with | nil => simp[Tryz.f5]at h | cons d l => exact⟨d, l, rfl⟩
    obtain⟨d3, yx, rfl⟩ : ∃ d l, nU = d :: l := by cases nU with | nil => simp[Tryz.f5]at h | cons d l => exact⟨d, l, rfl⟩
    have : yx = [] := by cases yx with | nil => rfl | cons d l => simp[Tryz.f5]at h
    subst this;rfl) abF wb (λd ar => Jg ar) (abJ nh (Qx hx (n := "strconv.ErrSyntax") (d := Rows.laid_strconv_ErrSyntax) (by simp[Rows.forewomanHalvesRow]) (by kernel_rfl) (by kernel_rfl)) (Qx hx (n := "strconv.ErrRange") (d := Rows.laid_strconv_ErrRange) (by simp[Rows.forewomanHalvesRow]) (by kernel_rfl) (by kernel_rfl)) (abC hx))
theorem fL : Rows.ForewomanHalvesSaid :=
  OpenClaim.holds_of_wide 5 Tryz.f5 rfl rfl rfl rfl rfl rfl rfl ⟨rfl, rfl, rfl, rfl, rfl⟩ rfl rfl rfl rfl rfl Qv Tryz.func5 abr abt abu
    (λos started H enc _ => lifted os started H enc)
theorem proved : Rows.ForewomanHalvesCardSaid :=
  Claim7.holds_tied_plain_at .later [] [.data, .data, .data, .data, .sentinel, .sentinel, .pinned] true Rows.forewomanHalvesCard.stood.harness true fL (λ_ h => by cases h) ha (λ_ h => by cases h) forewomanHalves_row_tie rfl ⟨rfl, rfl⟩ (by kernel_rfl) rfl
    (λf fn aq sN => by
      obtain rfl : f = 5 := Option.some.inj (Qv.symm.trans aq) |>.symm;obtain rfl : fn = Tryz.f5 := (Option.some.inj (Tryz.func5.symm.trans sN)).symm;exact⟨a9, λj t aF => by
        rw[Tryz.params5]at aF;have aj : t ∈ [40, 48, 3] := by simpa using Array.mem_of_getElem? aF
        have fj : ([40, 48, 3].all λu => !Tryz.prog.wantsStandIn u) = true := by kernel_rfl
        exact (show Tryz.prog.wantsStandIn t = false by simpa using List.all_eq_true.1 fj t aj)⟩)
    abq
end Go.Proofs.YtplfnoecifjgeaaGreatDoor.ForewomanHalvesProof
