/- ForewomanSlips returns true for every input, and leaves its arguments as they were; the row lists variables, tied by the card. No condition. -/
import Derived.Test.YtplfnoecifjgeaaGreatDoorSlipsG
import Derived.Test.YtplfnoecifjgeaaGreatDoorRows
import Derived.Test.YtplfnoecifjgeaaGreatDoorTie
import Derived.Test.YtplfnoecifjgeaaGreatDoorCards
import Derived.WalkKit
import Derived.ProofKit
import Derived.OpenShut
import Derived.LaidMore
import Derived.Lay
import Derived.SevenTiedAt
import Derived.Stop.Joined
import Derived.Test.YtplfnoecifjgeaaGreatDoorSlipsx
import Derived.Test.YtplfnoecifjgeaaGreatDoorSlipsy
set_option linter.unusedVariables false
set_option linter.unusedSimpArgs false
namespace Go.Proofs.YtplfnoecifjgeaaGreatDoor.ForewomanSlipsProof
open Go.ChangeShapes Go.WideShapes Go.ChangeAt Go.RowKit Go.Fer Go.Fer.n3
set_option maxRecDepth 100000
theorem own : ownKnob Tryz.prog.godebug = none := by kernel_rfl
theorem ab7{aq : Type}{m : M aq}{v : aq}{p : aq -> Prop}(h : m = M.pure v)(hp : p v) : M.ca m p := by rw[h]; exact M.dI.2 hp
theorem JF{H : Type}{d : DataW H}{l : List (DataW H)}(h : d ∈ l) : Rows.uptoBulk d <= Rows.uptoBulkAll l := by
  induction l with
  | nil => cases h
  | cons x r aJ =>
    simp only[Rows.uptoBulkAll];rcases List.mem_cons.1 h with rfl | e
    · omega
    · have := aJ e; omega
theorem ab8{H : Type}(d : DataW H) : 1 <= Rows.uptoBulk d := by
  cases d with
  | lit l => cases l <;> simp[Rows.uptoBulk]
  | _ => simp[Rows.uptoBulk]
theorem ab9{H : Type}(l : List (DataW H)) : l.length <= Rows.uptoBulkAll l := by
  induction l with
  | nil => simp[Rows.uptoBulkAll]
  | cons x r aJ => have := ab8 x; simp only[Rows.uptoBulkAll, List.length_cons]; omega
theorem ab_(H : Type) : Bx (Rows.uptoBulk (H := H)) where
  len := λe s => by have := ab9 e; simp only[Rows.uptoBulk]; omega
  By := λe s d h => by have := JF h; simp only[Rows.uptoBulk]; omega
  QX := λl d h => by have := JF h; simp only[Rows.uptoBulk]; omega
theorem ab'{s : bt}(h : af.Ok t32 s) : e' s := by
  obtain⟨⟨⟨h1, _⟩, ⟨h2, h3⟩, _, ⟨aT, _⟩⟩, ⟨bx, _⟩, ⟨c_, fN⟩, ⟨iZ, pR⟩, ⟨JG, _⟩, _⟩ := h;exact⟨⟨h1, h2, aT, λm ao => ⟨(h3 m ao).1, λs hs => ((h3 m ao).2 s hs).2.1.1⟩⟩, bx, c_, iZ, JG, λp hp => (fN p hp).2.2.2.2.1, λx hx => (pR x hx).1.1⟩
theorem aca{c : H.aR}(h : af.Ok sZ c) : H.ij c := by
  obtain⟨⟨h1, _⟩, ⟨h2, _⟩, ⟨h3, _⟩, ⟨aT, _⟩, _⟩ := h;exact⟨h1, h2, h3, aT⟩
theorem acb{W : World}(hx : laidMetH Tryz.prog Rows.forewomanSlipsRow.laid W) : Lib.TabIs Tryz.prog W "internal/strconv.uint64pow10" .u64 Lib.pow10Tab := by
  rw[MakeChecks.laidMetH_plain _ _ _ (by kernel_rfl)]at hx;obtain⟨_, hv, _⟩ := hx;obtain⟨g, t, cs, bZ, p, h1, h2, h3, aT⟩ := JH hv "internal/strconv.uint64pow10" Rows.laid_internal_strconv_uint64pow10 (by simp[Rows.forewomanSlipsRow]);obtain rfl := Option.some.inj ((show Tryz.prog.globalNamed "internal/strconv.uint64pow10" = some 5 by kernel_rfl).symm.trans h1);obtain rfl := Option.some.inj ((show (Tryz.prog.globals[5]?).map (·.type) = some 418 by kernel_rfl).symm.trans h2);unfold Lib.TabIs;rw[h3, <- Lib.cells_of_tab (zs := Lib.pow10Tab) Tryz.underlying418 Tryz.underlying285 (by kernel_rfl) (by kernel_rfl) aT]
theorem QY{W : World}(hx : laidMetH Tryz.prog Rows.forewomanSlipsRow.laid W){n : String}{d : DataW Unit}{b : Nat}(ao : (n, d) ∈ Rows.forewomanSlipsRow.laid)(ad : Tryz.prog.globalNamed n = some b)(aI : (Tryz.prog.globals[b]?).map (·.type) = some 266) : ∃ v, W.cell? ⟨b, 0, none⟩ = some v /\ (v = .nilIface \/ ∃ te pe, v = .iface te pe) := by
  rw[MakeChecks.laidMetH_plain _ _ _ (by kernel_rfl)]at hx;obtain⟨_, hv, _⟩ := hx;obtain⟨g, t, cs, bZ, p, h1, h2, h3, aT⟩ := JH hv n d ao;obtain rfl := Option.some.inj (ad.symm.trans h1);obtain rfl := Option.some.inj (aI.symm.trans h2);exact acd ad h3 ⟨_, Tryz.underlying266⟩ aT
theorem lifted(os : Os)(started : os.Started)(H : Type)(enc : TypeId × Value -> H) :
    ReturnsInHanded {} Tryz.checked os 6 .any (λw args => (Rows.forewomanSlipsSpec.pre enc Tryz.prog Tryz.f6 Rows.forewomanSlipsRow.domain false w args /\ laidMetH Tryz.prog Rows.forewomanSlipsRow.laid w) /\ sizedMet enc Tryz.prog Tryz.f6 (OpenSpec.ofChange Rows.forewomanSlipsSpec) false w args)
      (Rows.forewomanSlipsSpec.post enc Tryz.prog Tryz.f6 false true false false) := by
  refine ace (C := Tryz.checked) (X := λw _ => laidMetH Tryz.prog Rows.forewomanSlipsRow.laid w) (λ_ _ _ cB h => h.of_heap cB) own started (by kernel_rfl) Tryz.func6
    (ChangeSpec.witness_shaped (enc := enc) (C := Tryz.checked) (os := os) (X := λw _ => laidMetH Tryz.prog Rows.forewomanSlipsRow.laid w) false (World.laidAll Tryz.prog os Rows.forewomanSlipsRow.laid) #[.agg #[.slice none 0 0, .slice none 0 0, .int .i64 0, .slice none 0 0, .slice none 0 0, .slice none 0 0, .slice none 0 0, .slice none 0 0, .int .i64 0, .slice none 0 0, .slice none 0 0, .slice none 0 0, .slice none 0 0, .int .i64 0, .int .i64 0, .int .i64 0, .int .i64 0, .int .i64 0, .int .i64 0, .int .i64 0], .slice none 0 0, .slice none 0 0] 6 (World.laidAll_os _ _ _)
      (World.shaped_of_ZipB (by kernel_rfl) (by kernel_rfl)) (by kernel_rfl) (by kernel_rfl) (by kernel_rfl)
      (by rw[MakeChecks.laidMetH_plain _ _ _ (by kernel_rfl)]; exact laidMet_laidAll _ (by kernel_rfl) (by kernel_rfl))) ?_
  intro W base args a_ gs before acf wA nq hx;exact acg (ab_ H) (N := Rows.uptoBulkAll a_) (ts := .ay wB (.ay yO yO)) (rt := 4) (by kernel_rfl) ach (λx hx _ => ab7 (Go.Fer.W.aci x (ab' hx.1.1) (aca hx.1.2) hx.2.1.1 hx.2.2.1) rfl) (by kernel_rfl) (by kernel_rfl) rfl (by kernel_rfl) rfl (λH a_ h => by
    obtain⟨d1, eB, rfl⟩ : ∃ d l, a_ = d :: l := by cases a_ with | nil => simp[Tryz.f6]at h | cons d l => exact⟨d, l, rfl⟩
    obtain⟨d2, ns, rfl⟩ : ∃ d l, eB = d :: l := by cases eB with | nil => simp[Tryz.f6]at h | cons d l => exact⟨d, l, rfl⟩
    obtain⟨d3, yP, rfl⟩ : ∃ d l, ns = d :: l := by cases ns with | nil => simp[Tryz.f6]at h | cons d l => exact⟨d, l, rfl⟩
    have : yP = [] := by cases yP with | nil => rfl | cons d l => simp[Tryz.f6]at h
    subst this;rfl) acf wA (λd aw => JF aw) (acj nq (QY hx (n := "strconv.ErrSyntax") (d := Rows.laid_strconv_ErrSyntax) (by simp[Rows.forewomanSlipsRow]) (by kernel_rfl) (by kernel_rfl)) (QY hx (n := "strconv.ErrRange") (d := Rows.laid_strconv_ErrRange) (by simp[Rows.forewomanSlipsRow]) (by kernel_rfl) (by kernel_rfl)) (acb hx))
theorem fO : Rows.ForewomanSlipsSaid :=
  OpenClaim.holds_of_wide 6 Tryz.f6 rfl rfl rfl rfl rfl rfl rfl ⟨rfl, rfl, rfl, rfl, rfl⟩ rfl rfl rfl rfl rfl QW Tryz.func6 ab4 ab5 ab6
    (λos started H enc _ => lifted os started H enc)
theorem proved : Rows.ForewomanSlipsCardSaid :=
  Claim7.holds_tied_plain_at .later [] [.data, .data, .data, .data, .sentinel, .sentinel, .pinned] true Rows.forewomanSlipsCard.stood.harness true fO (λ_ h => by cases h) hh (λ_ h => by cases h) forewomanSlips_row_tie rfl ⟨rfl, rfl⟩ (by kernel_rfl) rfl
    (λf fn au s3 => by
      obtain rfl : f = 6 := Option.some.inj (QW.symm.trans au) |>.symm;obtain rfl : fn = Tryz.f6 := (Option.some.inj (Tryz.func6.symm.trans s3)).symm;exact⟨a9, λj t aI => by
        rw[Tryz.params6]at aI;have ao : t ∈ [40, 48, 48] := by simpa using Array.mem_of_getElem? aI
        have eJ : ([40, 48, 48].all λu => !Tryz.prog.wantsStandIn u) = true := by kernel_rfl
        exact (show Tryz.prog.wantsStandIn t = false by simpa using List.all_eq_true.1 eJ t ao)⟩)
    ab3
end Go.Proofs.YtplfnoecifjgeaaGreatDoor.ForewomanSlipsProof
