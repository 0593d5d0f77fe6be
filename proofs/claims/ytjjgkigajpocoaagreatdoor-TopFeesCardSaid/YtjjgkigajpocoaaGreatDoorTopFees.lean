/- TopFees returns true for every input, and leaves its arguments as they were; the row lists variables, tied by the card. No condition. -/
import Derived.Test.YtjjgkigajpocoaaGreatDoorTopFeesH
import Derived.Test.YtjjgkigajpocoaaGreatDoorRows
import Derived.Test.YtjjgkigajpocoaaGreatDoorTie
import Derived.Test.YtjjgkigajpocoaaGreatDoorCards
import Derived.WalkKit
import Derived.ProofKit
import Derived.OpenShut
import Derived.LaidMore
import Derived.Lay
import Derived.SevenTiedAt
import Derived.Stop.Joined
import Derived.Test.YtjjgkigajpocoaaGreatDoorTopFeesx
import Derived.Test.YtjjgkigajpocoaaGreatDoorTopFeesy
import Derived.Test.YtjjgkigajpocoaaGreatDoorTopFeesz
import Derived.Test.YtjjgkigajpocoaaGreatDoorTopFeesu
import Derived.Test.YtjjgkigajpocoaaGreatDoorTopFeesv
import Derived.Test.YtjjgkigajpocoaaGreatDoorTopFeesw
set_option linter.unusedVariables false
set_option linter.unusedSimpArgs false
namespace Go.Proofs.YtjjgkigajpocoaaGreatDoor.TopFeesProof
open Go.ChangeShapes Go.WideShapes Go.ChangeAt Go.RowKit Go.Fer Go.Fer.Sk
set_option maxRecDepth 100000
theorem own : ownKnob Tryz.prog.godebug = none := by kernel_rfl
theorem amZ{af : Type}{m : L af}{v : af}{p : af -> Prop}(h : m = mpure v)(ak : p v) : c8 m p := by rw[h]; exact dR.2 ak
theorem PQ{H : Type}{d : DataW H}{l : List (DataW H)}(h : d ∈ l) : Rows.uptoBulk d <= Rows.uptoBulkAll l := by
  induction l with
  | nil => cases h
  | cons x r aR =>
    simp only[Rows.uptoBulkAll];rcases List.mem_cons.1 h with rfl | e
    · omega
    · have := aR e; omega
theorem am0{H : Type}(d : DataW H) : 1 <= Rows.uptoBulk d := by
  cases d with
  | lit l => cases l <;> simp[Rows.uptoBulk]
  | _ => simp[Rows.uptoBulk]
theorem am1{H : Type}(l : List (DataW H)) : l.length <= Rows.uptoBulkAll l := by
  induction l with
  | nil => simp[Rows.uptoBulkAll]
  | cons x r aR => have := am0 x; simp only[Rows.uptoBulkAll, List.length_cons]; omega
theorem am2(H : Type) : FV (Rows.uptoBulk (H := H)) where
  len := λe s => by have := am1 e; simp only[Rows.uptoBulk]; omega
  J' := λe s d h => by have := PQ h; simp only[Rows.uptoBulk]; omega
  Yw := λl d h => by have := PQ h; simp only[Rows.uptoBulk]; omega
theorem am3{s : bN}(h : aa.j5 t32 s) : h0 s := by
  obtain⟨⟨⟨E, _⟩, ⟨M, al⟩, _, ⟨a7, _⟩⟩, ⟨bR, _⟩, ⟨er, jj⟩, ⟨ld, Ac⟩, ⟨FW, _⟩, _⟩ := h;exact⟨⟨E, M, a7, λm hm => ⟨(al m hm).1, λs ax => ((al m hm).2 s ax).2.1.1⟩⟩, bR, er, ld, FW, λp ak => (jj p ak).2.2.2.2.1, λx an => (Ac x an).1.1⟩
theorem am4{c : H.bb}(h : aa.j5 wY c) : H.nC c := by
  obtain⟨⟨E, _⟩, ⟨M, _⟩, ⟨al, _⟩, ⟨a7, _⟩, _⟩ := h;exact⟨E, M, al, a7⟩
theorem am5{W : World}(an : laidMetH Tryz.prog Rows.topFeesRow.laid W) : Lib.TabIs Tryz.prog W "internal/strconv.uint64pow10" .u64 Lib.pow10Tab := by
  rw[MakeChecks.laidMetH_plain _ _ _ (by kernel_rfl)]at an;obtain⟨_, ag, _⟩ := an;obtain⟨g, t, cs, cX, p, E, M, al, a7⟩ := PR ag "internal/strconv.uint64pow10" Rows.laid_internal_strconv_uint64pow10 (by simp[Rows.topFeesRow]);obtain rfl := Option.some.inj ((show Tryz.prog.globalNamed "internal/strconv.uint64pow10" = some 5 by kernel_rfl).symm.trans E);obtain rfl := Option.some.inj ((show (Tryz.prog.globals[5]?).map (·.type) = some 419 by kernel_rfl).symm.trans M);unfold Lib.TabIs;rw[al, <- Lib.cells_of_tab (zs := Lib.pow10Tab) Tryz.underlying419 Tryz.underlying349 (by kernel_rfl) (by kernel_rfl) a7]
theorem Yx{W : World}(an : laidMetH Tryz.prog Rows.topFeesRow.laid W){n : String}{d : DataW Unit}{b : Nat}(hm : (n, d) ∈ Rows.topFeesRow.laid)(U : Tryz.prog.globalNamed n = some b)(aH : (Tryz.prog.globals[b]?).map (·.type) = some 160) : ∃ v, W.cell? ⟨b, 0, none⟩ = some v /\ (v = .nilIface \/ ∃ n7 oL, v = .iface n7 oL) := by
  rw[MakeChecks.laidMetH_plain _ _ _ (by kernel_rfl)]at an;obtain⟨_, ag, _⟩ := an;obtain⟨g, t, cs, cX, p, E, M, al, a7⟩ := PR ag n d hm;obtain rfl := Option.some.inj (U.symm.trans E);obtain rfl := Option.some.inj (aH.symm.trans M);exact am6 U al ⟨_, Tryz.underlying160⟩ a7
theorem lifted(os : Os)(started : os.Started)(H : Type)(enc : TypeId × Value -> H) :
    ReturnsInHanded {} Tryz.checked os 4 .any (λw args => (Rows.topFeesSpec.pre enc Tryz.prog Tryz.f4 Rows.topFeesRow.domain false w args /\ laidMetH Tryz.prog Rows.topFeesRow.laid w) /\ sizedMet enc Tryz.prog Tryz.f4 (OpenSpec.ofChange Rows.topFeesSpec) false w args)
      (Rows.topFeesSpec.post enc Tryz.prog Tryz.f4 false true false false) := by
  refine am7 (C := Tryz.checked) (X := λw _ => laidMetH Tryz.prog Rows.topFeesRow.laid w) (λ_ _ _ dj h => h.of_heap dj) own started (by kernel_rfl) Tryz.func4
    (ChangeSpec.witness_shaped (enc := enc) (C := Tryz.checked) (os := os) (X := λw _ => laidMetH Tryz.prog Rows.topFeesRow.laid w) false (World.laidAll Tryz.prog os Rows.topFeesRow.laid) #[.agg #[.slice none 0 0, .slice none 0 0, .int .i64 0, .slice none 0 0, .slice none 0 0, .slice none 0 0, .slice none 0 0, .slice none 0 0, .int .i64 0, .slice none 0 0, .slice none 0 0, .slice none 0 0, .slice none 0 0, .int .i64 0, .int .i64 0, .int .i64 0, .int .i64 0, .int .i64 0, .int .i64 0, .int .i64 0], .slice none 0 0, .agg #[.int .i64 0, .int .i64 0, .int .i64 0, .int .i64 0]] 9 (World.laidAll_os _ _ _)
      (World.shaped_of_ZipB (by kernel_rfl) (by kernel_rfl)) (by kernel_rfl) (by kernel_rfl) (by kernel_rfl)
      (by rw[MakeChecks.laidMetH_plain _ _ _ (by kernel_rfl)]; exact laidMet_laidAll _ (by kernel_rfl) (by kernel_rfl))) ?_
  intro W base args bE gs before am8 wZ j6 an;exact am9 (am2 H) (N := Rows.uptoBulkAll bE) (ts := .aw Ad (.aw PS Ka)) (rt := 4) (by kernel_rfl) am_ (λx an _ => amZ (am' x (am3 an.1.1) (am4 an.1.2)) rfl) (by kernel_rfl) (by kernel_rfl) rfl (by kernel_rfl) rfl (λH bE h => by
    obtain⟨d1, fC, rfl⟩ : ∃ d l, bE = d :: l := by cases bE with | nil => simp[Tryz.f4]at h | cons d l => exact⟨d, l, rfl⟩
    obtain⟨d2, fR, rfl⟩ : ∃ d l, fC = d :: l := by cases fC with | nil => simp[Tryz.f4]at h | cons d l => exact⟨d, l, rfl⟩
    obtain⟨d3, FX, rfl⟩ : ∃ d l, fR = d :: l := by cases fR with | nil => simp[Tryz.f4]at h | cons d l => exact⟨d, l, rfl⟩
    have : FX = [] := by cases FX with | nil => rfl | cons d l => simp[Tryz.f4]at h
    subst this;rfl) am8 wZ (λd ay => PQ ay) (ana j6 (Yx an (n := "strconv.ErrSyntax") (d := Rows.laid_strconv_ErrSyntax) (by simp[Rows.topFeesRow]) (by kernel_rfl) (by kernel_rfl)) (Yx an (n := "strconv.ErrRange") (d := Rows.laid_strconv_ErrRange) (by simp[Rows.topFeesRow]) (by kernel_rfl) (by kernel_rfl)) (am5 an))
theorem h1 : Rows.TopFeesSaid :=
  OpenClaim.holds_of_wide 4 Tryz.f4 rfl rfl rfl rfl rfl rfl rfl ⟨rfl, rfl, rfl, rfl, rfl⟩ rfl rfl rfl rfl rfl Yv Tryz.func4 amW amX amY
    (λos started H enc _ => lifted os started H enc)
theorem proved : Rows.TopFeesCardSaid :=
  Claim7.holds_tied_plain_at .later [] [.data, .data, .data, .data, .sentinel, .sentinel, .pinned] true Rows.topFeesCard.stood.harness true h1 (λ_ h => by cases h) jC (λ_ h => by cases h) topFees_row_tie rfl ⟨rfl, rfl⟩ (by kernel_rfl) rfl
    (λf fn aC ho => by
      obtain rfl : f = 4 := Option.some.inj (Yv.symm.trans aC) |>.symm;obtain rfl : fn = Tryz.f4 := (Option.some.inj (Tryz.func4.symm.trans ho)).symm;exact⟨fK, λj t aH => by
        rw[Tryz.params4]at aH;have hm : t ∈ [40, 42, 60] := by simpa using Array.mem_of_getElem? aH
        have gA : ([40, 42, 60].all λu => !Tryz.prog.wantsStandIn u) = true := by kernel_rfl
        exact (show Tryz.prog.wantsStandIn t = false by simpa using List.all_eq_true.1 gA t hm)⟩)
    amV
end Go.Proofs.YtjjgkigajpocoaaGreatDoor.TopFeesProof
