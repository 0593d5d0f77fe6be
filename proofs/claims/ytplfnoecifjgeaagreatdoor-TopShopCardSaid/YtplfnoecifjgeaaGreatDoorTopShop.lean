/- TopShop returns true for every input, and leaves its arguments as they were; the row lists variables, tied by the card. No condition. -/
import Derived.Test.YtplfnoecifjgeaaGreatDoorTopShopG
import Derived.Test.YtplfnoecifjgeaaGreatDoorRows
import Derived.Test.YtplfnoecifjgeaaGreatDoorTie
import Derived.Test.YtplfnoecifjgeaaGreatDoorCards
import Derived.WalkKit
import Derived.ProofKit
import Derived.OpenShut
import Derived.LaidMore
import Derived.Lay
import Derived.SevenTiedAt
import Derived.Stop.Joined
import Derived.Test.YtplfnoecifjgeaaGreatDoorTopShopx
import Derived.Test.YtplfnoecifjgeaaGreatDoorTopShopy
set_option linter.unusedVariables false
set_option linter.unusedSimpArgs false
namespace Go.Proofs.YtplfnoecifjgeaaGreatDoor.TopShopProof
open Go.ChangeShapes Go.WideShapes Go.ChangeAt Go.RowKit Go.Fer Go.Fer.om
set_option maxRecDepth 100000
theorem own : ownKnob Tryz.prog.godebug = none := by kernel_rfl
theorem acJ{ak : Type}{m : A ak}{v : ak}{p : ak -> Prop}(h : m = A.pure v)(an : p v) : A.cw m p := by rw[h]; exact A.ea.2 an
theorem J9{H : Type}{d : DataW H}{l : List (DataW H)}(h : d ∈ l) : Rows.uptoBulk d <= Rows.uptoBulkAll l := by
  induction l with
  | nil => cases h
  | cons x r aJ =>
    simp only[Rows.uptoBulkAll];rcases List.mem_cons.1 h with rfl | e
    · omega
    · have := aJ e; omega
theorem one_le{H : Type}(d : DataW H) : 1 <= Rows.uptoBulk d := by
  cases d with
  | lit l => cases l <;> simp[Rows.uptoBulk]
  | _ => simp[Rows.uptoBulk]
theorem acK{H : Type}(l : List (DataW H)) : l.length <= Rows.uptoBulkAll l := by
  induction l with
  | nil => simp[Rows.uptoBulkAll]
  | cons x r aJ => have := one_le x; simp only[Rows.uptoBulkAll, List.length_cons]; omega
theorem acL(H : Type) : BQ (Rows.uptoBulk (H := H)) where
  len := λe s => by have := acK e; simp only[Rows.uptoBulk]; omega
  BR := λe s d h => by have := J9 h; simp only[Rows.uptoBulk]; omega
  Rp := λl d h => by have := J9 h; simp only[Rows.uptoBulk]; omega
theorem acM{s : bp}(h : ad.hB t32 s) : e8 s := by
  obtain⟨⟨⟨E, _⟩, ⟨U, ah⟩, _, ⟨a1, _⟩⟩, ⟨bK, _⟩, ⟨dp, fF⟩, ⟨ix, o5⟩, ⟨acN, _⟩, _⟩ := h;exact⟨⟨E, U, a1, λm hm => ⟨(ah m hm).1, λs aD => ((ah m hm).2 s aD).2.1.1⟩⟩, bK, dp, ix, acN, λp an => (fF p an).2.2.2.2.1, λx ag => (o5 x ag).1.1⟩
theorem acO{c : H.aZ}(h : ad.hB te c) : H.iy c := by
  obtain⟨⟨E, _⟩, ⟨U, _⟩, ⟨ah, _⟩, ⟨a1, _⟩, _⟩ := h;exact⟨E, U, ah, a1⟩
theorem acP{au : World}(ag : laidMetH Tryz.prog Rows.topShopRow.laid au) : Lib.TabIs Tryz.prog au "internal/strconv.uint64pow10" .u64 Lib.pow10Tab := by
  rw[MakeChecks.laidMetH_plain _ _ _ (by kernel_rfl)]at ag;obtain⟨_, ae, _⟩ := ag;obtain⟨g, t, cs, cj, p, E, U, ah, a1⟩ := J_ ae "internal/strconv.uint64pow10" Rows.laid_internal_strconv_uint64pow10 (by simp[Rows.topShopRow]);obtain rfl := Option.some.inj ((show Tryz.prog.globalNamed "internal/strconv.uint64pow10" = some 5 by kernel_rfl).symm.trans E);obtain rfl := Option.some.inj ((show (Tryz.prog.globals[5]?).map (·.type) = some 418 by kernel_rfl).symm.trans U);unfold Lib.TabIs;rw[ah, <- Lib.cells_of_tab (zs := Lib.pow10Tab) Tryz.underlying418 Tryz.underlying285 (by kernel_rfl) (by kernel_rfl) a1]
theorem Rq{au : World}(ag : laidMetH Tryz.prog Rows.topShopRow.laid au){n : String}{d : DataW Unit}{b : Nat}(hm : (n, d) ∈ Rows.topShopRow.laid)(W : Tryz.prog.globalNamed n = some b)(aH : (Tryz.prog.globals[b]?).map (·.type) = some 266) : ∃ v, au.cell? ⟨b, 0, none⟩ = some v /\ (v = .nilIface \/ ∃ lG l9, v = .iface lG l9) := by
  rw[MakeChecks.laidMetH_plain _ _ _ (by kernel_rfl)]at ag;obtain⟨_, ae, _⟩ := ag;obtain⟨g, t, cs, cj, p, E, U, ah, a1⟩ := J_ ae n d hm;obtain rfl := Option.some.inj (W.symm.trans E);obtain rfl := Option.some.inj (aH.symm.trans U);exact acQ W ah ⟨_, Tryz.underlying266⟩ a1
theorem lifted(os : Os)(started : os.Started)(H : Type)(enc : TypeId × Value -> H) :
    ReturnsInHanded {} Tryz.checked os 13 .any (λw args => (Rows.topShopSpec.pre enc Tryz.prog Tryz.f13 Rows.topShopRow.domain false w args /\ laidMetH Tryz.prog Rows.topShopRow.laid w) /\ sizedMet enc Tryz.prog Tryz.f13 (OpenSpec.ofChange Rows.topShopSpec) false w args)
      (Rows.topShopSpec.post enc Tryz.prog Tryz.f13 false true false false) := by
  refine acR (C := Tryz.checked) (X := λw _ => laidMetH Tryz.prog Rows.topShopRow.laid w) (λ_ _ _ cW h => h.of_heap cW) own started (by kernel_rfl) Tryz.func13
    (ChangeSpec.witness_shaped (enc := enc) (C := Tryz.checked) (os := os) (X := λw _ => laidMetH Tryz.prog Rows.topShopRow.laid w) false (World.laidAll Tryz.prog os Rows.topShopRow.laid) #[.agg #[.slice none 0 0, .slice none 0 0, .int .i64 0, .slice none 0 0, .slice none 0 0, .slice none 0 0, .slice none 0 0, .slice none 0 0, .int .i64 0, .slice none 0 0, .slice none 0 0, .slice none 0 0, .slice none 0 0, .int .i64 0, .int .i64 0, .int .i64 0, .int .i64 0, .int .i64 0, .int .i64 0, .int .i64 0], .slice none 0 0] 13 (World.laidAll_os _ _ _)
      (World.shaped_of_ZipB (by kernel_rfl) (by kernel_rfl)) (by kernel_rfl) (by kernel_rfl) (by kernel_rfl)
      (by rw[MakeChecks.laidMetH_plain _ _ _ (by kernel_rfl)]; exact laidMet_laidAll _ (by kernel_rfl) (by kernel_rfl))) ?_
  intro au base args bh gs before acS wM nF ag;exact acT (acL H) (N := Rows.uptoBulkAll bh) (ts := .az wN eF) (rt := 4) (by kernel_rfl) acU (λx ag _ => acJ (Go.Fer.au.acV x (acM ag.1.1) (acO ag.1.2) ag.2.1) rfl) (by kernel_rfl) (by kernel_rfl) rfl (by kernel_rfl) rfl (λH bh h => by
    obtain⟨d1, e1, rfl⟩ : ∃ d l, bh = d :: l := by cases bh with | nil => simp[Tryz.f13]at h | cons d l => exact⟨d, l, rfl⟩
    obtain⟨d2, oo, rfl⟩ : ∃ d l, e1 = d :: l := by cases e1 with | nil => simp[Tryz.f13]at h | cons d l => exact⟨d, l, rfl⟩
    have : oo = [] := by cases oo with | nil => rfl | cons d l => simp[Tryz.f13]at h
    subst this;rfl) acS wM (λd ar => J9 ar) (acW nF (Rq ag (n := "strconv.ErrSyntax") (d := Rows.laid_strconv_ErrSyntax) (by simp[Rows.topShopRow]) (by kernel_rfl) (by kernel_rfl)) (Rq ag (n := "strconv.ErrRange") (d := Rows.laid_strconv_ErrRange) (by simp[Rows.topShopRow]) (by kernel_rfl) (by kernel_rfl)) (acP ag))
theorem gh : Rows.TopShopSaid :=
  OpenClaim.holds_of_wide 13 Tryz.f13 rfl rfl rfl rfl rfl rfl rfl ⟨rfl, rfl, rfl, rfl, rfl⟩ rfl rfl rfl rfl rfl a12 Tryz.func13 acG acH acI
    (λos started H enc _ => lifted os started H enc)
theorem proved : Rows.TopShopCardSaid :=
  Claim7.holds_tied_plain_at .later [] [.data, .data, .data, .data, .sentinel, .sentinel, .pinned] true Rows.topShopCard.stood.harness true gh (λ_ h => by cases h) hA (λ_ h => by cases h) topShop_row_tie rfl ⟨rfl, rfl⟩ (by kernel_rfl) rfl
    (λf fn ao tf => by
      obtain rfl : f = 13 := Option.some.inj (a12.symm.trans ao) |>.symm;obtain rfl : fn = Tryz.f13 := (Option.some.inj (Tryz.func13.symm.trans tf)).symm;exact⟨a9, λj t aH => by
        rw[Tryz.params13]at aH;have hm : t ∈ [40, 27] := by simpa using Array.mem_of_getElem? aH
        have fR : ([40, 27].all λu => !Tryz.prog.wantsStandIn u) = true := by kernel_rfl
        exact (show Tryz.prog.wantsStandIn t = false by simpa using List.all_eq_true.1 fR t hm)⟩)
    acF
end Go.Proofs.YtplfnoecifjgeaaGreatDoor.TopShopProof
