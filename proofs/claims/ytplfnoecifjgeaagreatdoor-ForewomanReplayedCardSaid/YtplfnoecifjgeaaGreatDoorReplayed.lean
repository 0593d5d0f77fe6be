/- ForewomanReplayed returns true for every input, and leaves its arguments as they were; the row lists variables, tied by the card. No condition. -/
import Derived.Test.YtplfnoecifjgeaaGreatDoorReplayedG
import Derived.Test.YtplfnoecifjgeaaGreatDoorRows
import Derived.Test.YtplfnoecifjgeaaGreatDoorTie
import Derived.Test.YtplfnoecifjgeaaGreatDoorCards
import Derived.WalkKit
import Derived.ProofKit
import Derived.OpenShut
import Derived.LaidMore
import Derived.Lay
import Derived.SevenTiedAt
import Derived.Stop.Joined
import Derived.Test.YtplfnoecifjgeaaGreatDoorReplayedx
import Derived.Test.YtplfnoecifjgeaaGreatDoorReplayedy
set_option linter.unusedVariables false
set_option linter.unusedSimpArgs false
namespace Go.Proofs.YtplfnoecifjgeaaGreatDoor.ForewomanReplayedProof
open Go.ChangeShapes Go.WideShapes Go.ChangeAt Go.RowKit Go.Fer Go.Fer.nV
set_option maxRecDepth 100000
theorem own : ownKnob Tryz.prog.godebug = none := by kernel_rfl
theorem abE{aj : Type}{m : M aj}{v : aj}{p : aj -> Prop}(h : m = M.pure v)(hp : p v) : M.b_ m p := by rw[h]; exact M.dE.2 hp
theorem Jp{H : Type}{d : DataW H}{l : List (DataW H)}(h : d ∈ l) : Rows.uptoBulk d <= Rows.uptoBulkAll l := by
  induction l with
  | nil => cases h
  | cons x r aG =>
    simp only[Rows.uptoBulkAll];rcases List.mem_cons.1 h with rfl | e
    · omega
    · have := aG e; omega
theorem abF{H : Type}(d : DataW H) : 1 <= Rows.uptoBulk d := by
  cases d with
  | lit l => cases l <;> simp[Rows.uptoBulk]
  | _ => simp[Rows.uptoBulk]
theorem abG{H : Type}(l : List (DataW H)) : l.length <= Rows.uptoBulkAll l := by
  induction l with
  | nil => simp[Rows.uptoBulkAll]
  | cons x r aG => have := abF x; simp only[Rows.uptoBulkAll, List.length_cons]; omega
theorem abH(H : Type) : Bg (Rows.uptoBulk (H := H)) where
  len := λe s => by have := abG e; simp only[Rows.uptoBulk]; omega
  Bh := λe s d h => by have := Jp h; simp only[Rows.uptoBulk]; omega
  Qz := λl d h => by have := Jp h; simp only[Rows.uptoBulk]; omega
theorem abI{s : br}(h : ae.Ok t32 s) : e' s := by
  obtain⟨⟨⟨h1, _⟩, ⟨h2, h3⟩, _, ⟨aR, _⟩⟩, ⟨bw, _⟩, ⟨cY, fK⟩, ⟨iS, pK⟩, ⟨abJ, _⟩, _⟩ := h;exact⟨⟨h1, h2, aR, λm an => ⟨(h3 m an).1, λs hs => ((h3 m an).2 s hs).2.1.1⟩⟩, bw, cY, iS, abJ, λp hp => (fK p hp).2.2.2.2.1, λx hx => (pK x hx).1.1⟩
theorem abK{c : H.aQ}(h : ae.Ok sR c) : H.iC c := by
  obtain⟨⟨h1, _⟩, ⟨h2, _⟩, ⟨h3, _⟩, ⟨aR, _⟩, _⟩ := h;exact⟨h1, h2, h3, aR⟩
theorem abL{W : World}(hx : laidMetH Tryz.prog Rows.forewomanReplayedRow.laid W) : Lib.TabIs Tryz.prog W "internal/strconv.uint64pow10" .u64 Lib.pow10Tab := by
  rw[MakeChecks.laidMetH_plain _ _ _ (by kernel_rfl)]at hx;obtain⟨_, hv, _⟩ := hx;obtain⟨g, t, cs, bW, p, h1, h2, h3, aR⟩ := Jq hv "internal/strconv.uint64pow10" Rows.laid_internal_strconv_uint64pow10 (by simp[Rows.forewomanReplayedRow]);obtain rfl := Option.some.inj ((show Tryz.prog.globalNamed "internal/strconv.uint64pow10" = some 5 by kernel_rfl).symm.trans h1);obtain rfl := Option.some.inj ((show (Tryz.prog.globals[5]?).map (·.type) = some 418 by kernel_rfl).symm.trans h2);unfold Lib.TabIs;rw[h3, <- Lib.cells_of_tab (zs := Lib.pow10Tab) Tryz.underlying418 Tryz.underlying285 (by kernel_rfl) (by kernel_rfl) aR]
theorem QA{W : World}(hx : laidMetH Tryz.prog Rows.forewomanReplayedRow.laid W){n : String}{d : DataW Unit}{b : Nat}(an : (n, d) ∈ Rows.forewomanReplayedRow.laid)(ab : Tryz.prog.globalNamed n = some b)(aH : (Tryz.prog.globals[b]?).map (·.type) = some 266) : ∃ v, W.cell? ⟨b, 0, none⟩ = some v /\ (v = .nilIface \/ ∃ te pe, v = .iface te pe) := by
  rw[MakeChecks.laidMetH_plain _ _ _ (by kernel_rfl)]at hx;obtain⟨_, hv, _⟩ := hx;obtain⟨g, t, cs, bW, p, h1, h2, h3, aR⟩ := Jq hv n d an;obtain rfl := Option.some.inj (ab.symm.trans h1);obtain rfl := Option.some.inj (aH.symm.trans h2);exact abM ab h3 ⟨_, Tryz.underlying266⟩ aR
theorem lifted(os : Os)(started : os.Started)(H : Type)(enc : TypeId × Value -> H) :
    ReturnsInHanded {} Tryz.checked os 11 .any (λw args => (Rows.forewomanReplayedSpec.pre enc Tryz.prog Tryz.f11 Rows.forewomanReplayedRow.domain false w args /\ laidMetH Tryz.prog Rows.forewomanReplayedRow.laid w) /\ sizedMet enc Tryz.prog Tryz.f11 (OpenSpec.ofChange Rows.forewomanReplayedSpec) false w args)
      (Rows.forewomanReplayedSpec.post enc Tryz.prog Tryz.f11 false true false false) := by
  refine abN (C := Tryz.checked) (X := λw _ => laidMetH Tryz.prog Rows.forewomanReplayedRow.laid w) (λ_ _ _ cz h => h.of_heap cz) own started (by kernel_rfl) Tryz.func11
    (ChangeSpec.witness_shaped (enc := enc) (C := Tryz.checked) (os := os) (X := λw _ => laidMetH Tryz.prog Rows.forewomanReplayedRow.laid w) false (World.laidAll Tryz.prog os Rows.forewomanReplayedRow.laid) #[.agg #[.slice none 0 0, .slice none 0 0, .int .i64 0, .slice none 0 0, .slice none 0 0, .slice none 0 0, .slice none 0 0, .slice none 0 0, .int .i64 0, .slice none 0 0, .slice none 0 0, .slice none 0 0, .slice none 0 0, .int .i64 0, .int .i64 0, .int .i64 0, .int .i64 0, .int .i64 0, .int .i64 0, .int .i64 0], .slice none 0 0] 11 (World.laidAll_os _ _ _)
      (World.shaped_of_ZipB (by kernel_rfl) (by kernel_rfl)) (by kernel_rfl) (by kernel_rfl) (by kernel_rfl)
      (by rw[MakeChecks.laidMetH_plain _ _ _ (by kernel_rfl)]; exact laidMet_laidAll _ (by kernel_rfl) (by kernel_rfl))) ?_
  intro W base args a8 gs before abO wh ni hx;exact abP (abH H) (N := Rows.uptoBulkAll a8) (ts := .ax wj EI) (rt := 4) (by kernel_rfl) abQ (λx hx _ => abE (Go.Fer.W.abR x (abI hx.1.1) (abK hx.1.2) hx.2.1) rfl) (by kernel_rfl) (by kernel_rfl) rfl (by kernel_rfl) rfl (λH a8 h => by
    obtain⟨d1, eO, rfl⟩ : ∃ d l, a8 = d :: l := by cases a8 with | nil => simp[Tryz.f11]at h | cons d l => exact⟨d, l, rfl⟩
    obtain⟨d2, pL, rfl⟩ : ∃ d l, eO = d :: l := by cases eO with | nil => simp[Tryz.f11]at h | cons d l => exact⟨d, l, rfl⟩
    have : pL = [] := by cases pL with | nil => rfl | cons d l => simp[Tryz.f11]at h
    subst this;rfl) abO wh (λd au => Jp au) (abS ni (QA hx (n := "strconv.ErrSyntax") (d := Rows.laid_strconv_ErrSyntax) (by simp[Rows.forewomanReplayedRow]) (by kernel_rfl) (by kernel_rfl)) (QA hx (n := "strconv.ErrRange") (d := Rows.laid_strconv_ErrRange) (by simp[Rows.forewomanReplayedRow]) (by kernel_rfl) (by kernel_rfl)) (abL hx))
theorem fL : Rows.ForewomanReplayedSaid :=
  OpenClaim.holds_of_wide 11 Tryz.f11 rfl rfl rfl rfl rfl rfl rfl ⟨rfl, rfl, rfl, rfl, rfl⟩ rfl rfl rfl rfl rfl Qy Tryz.func11 abB abC abD
    (λos started H enc _ => lifted os started H enc)
theorem proved : Rows.ForewomanReplayedCardSaid :=
  Claim7.holds_tied_plain_at .later [] [.data, .data, .data, .data, .sentinel, .sentinel, .pinned] true Rows.forewomanReplayedCard.stood.harness true fL (λ_ h => by cases h) hb (λ_ h => by cases h) forewomanReplayed_row_tie rfl ⟨rfl, rfl⟩ (by kernel_rfl) rfl
    (λf fn ar sS => by
      obtain rfl : f = 11 := Option.some.inj (Qy.symm.trans ar) |>.symm;obtain rfl : fn = Tryz.f11 := (Option.some.inj (Tryz.func11.symm.trans sS)).symm;exact⟨a9, λj t aH => by
        rw[Tryz.params11]at aH;have an : t ∈ [40, 48] := by simpa using Array.mem_of_getElem? aH
        have fj : ([40, 48].all λu => !Tryz.prog.wantsStandIn u) = true := by kernel_rfl
        exact (show Tryz.prog.wantsStandIn t = false by simpa using List.all_eq_true.1 fj t an)⟩)
    abA
end Go.Proofs.YtplfnoecifjgeaaGreatDoor.ForewomanReplayedProof
