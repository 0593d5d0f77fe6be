/- ForewomanTrials returns true for every input, and leaves its arguments as they were; the row lists variables, tied by the card. No condition. -/
import Derived.Test.YtplfnoecifjgeaaGreatDoorTrialsG
import Derived.Test.YtplfnoecifjgeaaGreatDoorRows
import Derived.Test.YtplfnoecifjgeaaGreatDoorTie
import Derived.Test.YtplfnoecifjgeaaGreatDoorCards
import Derived.WalkKit
import Derived.ProofKit
import Derived.OpenShut
import Derived.LaidMore
import Derived.Lay
import Derived.SevenTiedAt
import Derived.Stop.Joined
import Derived.Test.YtplfnoecifjgeaaGreatDoorTrialsx
import Derived.Test.YtplfnoecifjgeaaGreatDoorTrialsy
set_option linter.unusedVariables false
set_option linter.unusedSimpArgs false
namespace Go.Proofs.YtplfnoecifjgeaaGreatDoor.ForewomanTrialsProof
open Go.ChangeShapes Go.WideShapes Go.ChangeAt Go.RowKit Go.Fer Go.Fer.nZ
set_option maxRecDepth 100000
theorem own : ownKnob Tryz.prog.godebug = none := by kernel_rfl
theorem ab2{aj : Type}{m : M aj}{v : aj}{p : aj -> Prop}(h : m = M.pure v)(hp : p v) : M.b_ m p := by rw[h]; exact M.dF.2 hp
theorem Jw{H : Type}{d : DataW H}{l : List (DataW H)}(h : d ∈ l) : Rows.uptoBulk d <= Rows.uptoBulkAll l := by
  induction l with
  | nil => cases h
  | cons x r aH =>
    simp only[Rows.uptoBulkAll];rcases List.mem_cons.1 h with rfl | e
    · omega
    · have := aH e; omega
theorem ab3{H : Type}(d : DataW H) : 1 <= Rows.uptoBulk d := by
  cases d with
  | lit l => cases l <;> simp[Rows.uptoBulk]
  | _ => simp[Rows.uptoBulk]
theorem ab4{H : Type}(l : List (DataW H)) : l.length <= Rows.uptoBulkAll l := by
  induction l with
  | nil => simp[Rows.uptoBulkAll]
  | cons x r aH => have := ab3 x; simp only[Rows.uptoBulkAll, List.length_cons]; omega
theorem ab5(H : Type) : Bo (Rows.uptoBulk (H := H)) where
  len := λe s => by have := ab4 e; simp only[Rows.uptoBulk]; omega
  Bp := λe s d h => by have := Jw h; simp only[Rows.uptoBulk]; omega
  QM := λl d h => by have := Jw h; simp only[Rows.uptoBulk]; omega
theorem ab6{s : br}(h : af.Ok t32 s) : fb s := by
  obtain⟨⟨⟨h1, _⟩, ⟨h2, h3⟩, _, ⟨aR, _⟩⟩, ⟨bw, _⟩, ⟨cZ, fN⟩, ⟨iX, pH⟩, ⟨ab7, _⟩, _⟩ := h;exact⟨⟨h1, h2, aR, λm an => ⟨(h3 m an).1, λs hs => ((h3 m an).2 s hs).2.1.1⟩⟩, bw, cZ, iX, ab7, λp hp => (fN p hp).2.2.2.2.1, λx hx => (pH x hx).1.1⟩
theorem ab8{c : H.aQ}(h : af.Ok s4 c) : H.iF c := by
  obtain⟨⟨h1, _⟩, ⟨h2, _⟩, ⟨h3, _⟩, ⟨aR, _⟩, _⟩ := h;exact⟨h1, h2, h3, aR⟩
theorem ab9{W : World}(hx : laidMetH Tryz.prog Rows.forewomanTrialsRow.laid W) : Lib.TabIs Tryz.prog W "internal/strconv.uint64pow10" .u64 Lib.pow10Tab := by
  rw[MakeChecks.laidMetH_plain _ _ _ (by kernel_rfl)]at hx;obtain⟨_, hv, _⟩ := hx;obtain⟨g, t, cs, b3, p, h1, h2, h3, aR⟩ := Jx hv "internal/strconv.uint64pow10" Rows.laid_internal_strconv_uint64pow10 (by simp[Rows.forewomanTrialsRow]);obtain rfl := Option.some.inj ((show Tryz.prog.globalNamed "internal/strconv.uint64pow10" = some 5 by kernel_rfl).symm.trans h1);obtain rfl := Option.some.inj ((show (Tryz.prog.globals[5]?).map (·.type) = some 418 by kernel_rfl).symm.trans h2);unfold Lib.TabIs;rw[h3, <- Lib.cells_of_tab (zs := Lib.pow10Tab) Tryz.underlying418 Tryz.underlying285 (by kernel_rfl) (by kernel_rfl) aR]
theorem QN{W : World}(hx : laidMetH Tryz.prog Rows.forewomanTrialsRow.laid W){n : String}{d : DataW Unit}{b : Nat}(an : (n, d) ∈ Rows.forewomanTrialsRow.laid)(ab : Tryz.prog.globalNamed n = some b)(aG : (Tryz.prog.globals[b]?).map (·.type) = some 266) : ∃ v, W.cell? ⟨b, 0, none⟩ = some v /\ (v = .nilIface \/ ∃ te pe, v = .iface te pe) := by
  rw[MakeChecks.laidMetH_plain _ _ _ (by kernel_rfl)]at hx;obtain⟨_, hv, _⟩ := hx;obtain⟨g, t, cs, b3, p, h1, h2, h3, aR⟩ := Jx hv n d an;obtain rfl := Option.some.inj (ab.symm.trans h1);obtain rfl := Option.some.inj (aG.symm.trans h2);exact ab_ ab h3 ⟨_, Tryz.underlying266⟩ aR
theorem lifted(os : Os)(started : os.Started)(H : Type)(enc : TypeId × Value -> H) :
    ReturnsInHanded {} Tryz.checked os 9 .any (λw args => (Rows.forewomanTrialsSpec.pre enc Tryz.prog Tryz.f9 Rows.forewomanTrialsRow.domain false w args /\ laidMetH Tryz.prog Rows.forewomanTrialsRow.laid w) /\ sizedMet enc Tryz.prog Tryz.f9 (OpenSpec.ofChange Rows.forewomanTrialsSpec) false w args)
      (Rows.forewomanTrialsSpec.post enc Tryz.prog Tryz.f9 false true false false) := by
  refine ab' (C := Tryz.checked) (X := λw _ => laidMetH Tryz.prog Rows.forewomanTrialsRow.laid w) (λ_ _ _ cA h => h.of_heap cA) own started (by kernel_rfl) Tryz.func9
    (ChangeSpec.witness_shaped (enc := enc) (C := Tryz.checked) (os := os) (X := λw _ => laidMetH Tryz.prog Rows.forewomanTrialsRow.laid w) false (World.laidAll Tryz.prog os Rows.forewomanTrialsRow.laid) #[.agg #[.slice none 0 0, .slice none 0 0, .int .i64 0, .slice none 0 0, .slice none 0 0, .slice none 0 0, .slice none 0 0, .slice none 0 0, .int .i64 0, .slice none 0 0, .slice none 0 0, .slice none 0 0, .slice none 0 0, .int .i64 0, .int .i64 0, .int .i64 0, .int .i64 0, .int .i64 0, .int .i64 0, .int .i64 0], .slice none 0 0, .agg #[.int .i64 0, .int .i64 0, .int .i64 0, .int .i64 0]] 9 (World.laidAll_os _ _ _)
      (World.shaped_of_ZipB (by kernel_rfl) (by kernel_rfl)) (by kernel_rfl) (by kernel_rfl) (by kernel_rfl)
      (by rw[MakeChecks.laidMetH_plain _ _ _ (by kernel_rfl)]; exact laidMet_laidAll _ (by kernel_rfl) (by kernel_rfl))) ?_
  intro W base args a_ gs before aca wu nm hx;exact acb (ab5 H) (N := Rows.uptoBulkAll a_) (ts := .aw wv (.aw ER uM)) (rt := 4) (by kernel_rfl) acd (λx hx _ => ab2 (Go.Fer.W.ace x (ab6 hx.1.1) (ab8 hx.1.2) hx.2.1.1) rfl) (by kernel_rfl) (by kernel_rfl) rfl (by kernel_rfl) rfl (λH a_ h => by
    obtain⟨d1, eR, rfl⟩ : ∃ d l, a_ = d :: l := by cases a_ with | nil => simp[Tryz.f9]at h | cons d l => exact⟨d, l, rfl⟩
    obtain⟨d2, pI, rfl⟩ : ∃ d l, eR = d :: l := by cases eR with | nil => simp[Tryz.f9]at h | cons d l => exact⟨d, l, rfl⟩
    obtain⟨d3, yH, rfl⟩ : ∃ d l, pI = d :: l := by cases pI with | nil => simp[Tryz.f9]at h | cons d l => exact⟨d, l, rfl⟩
    have : yH = [] := by cases yH with | nil => rfl | cons d l => simp[Tryz.f9]at h
    subst this;rfl) aca wu (λd au => Jw au) (acf nm (QN hx (n := "strconv.ErrSyntax") (d := Rows.laid_strconv_ErrSyntax) (by simp[Rows.forewomanTrialsRow]) (by kernel_rfl) (by kernel_rfl)) (QN hx (n := "strconv.ErrRange") (d := Rows.laid_strconv_ErrRange) (by simp[Rows.forewomanTrialsRow]) (by kernel_rfl) (by kernel_rfl)) (ab9 hx))
theorem fO : Rows.ForewomanTrialsSaid :=
  OpenClaim.holds_of_wide 9 Tryz.f9 rfl rfl rfl rfl rfl rfl rfl ⟨rfl, rfl, rfl, rfl, rfl⟩ rfl rfl rfl rfl rfl QL Tryz.func9 abZ ab0 ab1
    (λos started H enc _ => lifted os started H enc)
theorem proved : Rows.ForewomanTrialsCardSaid :=
  Claim7.holds_tied_plain_at .later [] [.data, .data, .data, .data, .sentinel, .sentinel, .pinned] true Rows.forewomanTrialsCard.stood.harness true fO (λ_ h => by cases h) hh (λ_ h => by cases h) forewomanTrials_row_tie rfl ⟨rfl, rfl⟩ (by kernel_rfl) rfl
    (λf fn ar s5 => by
      obtain rfl : f = 9 := Option.some.inj (QL.symm.trans ar) |>.symm;obtain rfl : fn = Tryz.f9 := (Option.some.inj (Tryz.func9.symm.trans s5)).symm;exact⟨a9, λj t aG => by
        rw[Tryz.params9]at aG;have an : t ∈ [40, 48, 42] := by simpa using Array.mem_of_getElem? aG
        have fo : ([40, 48, 42].all λu => !Tryz.prog.wantsStandIn u) = true := by kernel_rfl
        exact (show Tryz.prog.wantsStandIn t = false by simpa using List.all_eq_true.1 fo t an)⟩)
    abY
end Go.Proofs.YtplfnoecifjgeaaGreatDoor.ForewomanTrialsProof
