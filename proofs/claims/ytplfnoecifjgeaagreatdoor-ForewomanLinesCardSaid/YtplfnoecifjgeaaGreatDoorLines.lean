/- ForewomanLines returns true for every input, and leaves its arguments as they were; the row lists variables, tied by the card. No condition. -/
import Derived.Test.YtplfnoecifjgeaaGreatDoorLinesG
import Derived.Test.YtplfnoecifjgeaaGreatDoorRows
import Derived.Test.YtplfnoecifjgeaaGreatDoorTie
import Derived.Test.YtplfnoecifjgeaaGreatDoorCards
import Derived.WalkKit
import Derived.ProofKit
import Derived.OpenShut
import Derived.LaidMore
import Derived.Lay
import Derived.SevenTiedAt
import Derived.Stop.Joined
import Derived.Test.YtplfnoecifjgeaaGreatDoorLinesx
import Derived.Test.YtplfnoecifjgeaaGreatDoorLinesy
import Derived.Test.YtplfnoecifjgeaaGreatDoorLinesz
import Derived.Test.YtplfnoecifjgeaaGreatDoorLinesu
import Derived.Test.YtplfnoecifjgeaaGreatDoorLinesv
import Derived.Test.YtplfnoecifjgeaaGreatDoorLinesw
set_option linter.unusedVariables false
set_option linter.unusedSimpArgs false
namespace Go.Proofs.YtplfnoecifjgeaaGreatDoor.ForewomanLinesProof
open Go.ChangeShapes Go.WideShapes Go.ChangeAt Go.RowKit Go.Fer Go.Fer.pT
set_option maxRecDepth 100000
theorem own : ownKnob Tryz.prog.godebug = none := by kernel_rfl
theorem ajl{ag : Type}{m : G ag}{v : ag}{p : ag -> Prop}(h : m = mpure v)(aq : p v) : dj m p := by rw[h]; exact eY.2 aq
theorem M0{H : Type}{d : DataW H}{l : List (DataW H)}(h : d ∈ l) : Rows.uptoBulk d <= Rows.uptoBulkAll l := by
  induction l with
  | nil => cases h
  | cons x r aP =>
    simp only[Rows.uptoBulkAll];rcases List.mem_cons.1 h with rfl | e
    · omega
    · have := aP e; omega
theorem ajm{H : Type}(d : DataW H) : 1 <= Rows.uptoBulk d := by
  cases d with
  | lit l => cases l <;> simp[Rows.uptoBulk]
  | _ => simp[Rows.uptoBulk]
theorem ajn{H : Type}(l : List (DataW H)) : l.length <= Rows.uptoBulkAll l := by
  induction l with
  | nil => simp[Rows.uptoBulkAll]
  | cons x r aP => have := ajm x; simp only[Rows.uptoBulkAll, List.length_cons]; omega
theorem ajo(H : Type) : DX (Rows.uptoBulk (H := H)) where
  len := λe s => by have := ajn e; simp only[Rows.uptoBulk]; omega
  HN := λe s d h => by have := M0 h; simp only[Rows.uptoBulk]; omega
  Vg := λl d h => by have := M0 h; simp only[Rows.uptoBulk]; omega
theorem ajp{s : aS}(h : aa.jv t32 s) : eN s := by
  obtain⟨⟨⟨E, _⟩, ⟨M, ai⟩, _, ⟨bf, _⟩⟩, ⟨b2, _⟩, ⟨d_, hn⟩, ⟨jL, tP⟩, ⟨M1, _⟩, _⟩ := h;exact⟨⟨E, M, bf, λm hm => ⟨(ai m hm).1, λs az => ((ai m hm).2 s az).2.1.1⟩⟩, b2, d_, jL, M1, λp aq => (hn p aq).2.2.2.2.1, λx al => (tP x al).1.1⟩
theorem ajq{c : H.aW}(h : aa.jv o6 c) : H.jw c := by
  obtain⟨⟨E, _⟩, ⟨M, _⟩, ⟨ai, _⟩, ⟨bf, _⟩, _⟩ := h;exact⟨E, M, ai, bf⟩
theorem ajr{aj : World}(al : laidMetH Tryz.prog Rows.forewomanLinesRow.laid aj) : Lib.TabIs Tryz.prog aj "internal/strconv.uint64pow10" .u64 Lib.pow10Tab := by
  rw[MakeChecks.laidMetH_plain _ _ _ (by kernel_rfl)]at al;obtain⟨_, ab, _⟩ := al;obtain⟨g, t, cs, de, p, E, M, ai, bf⟩ := M2 ab "internal/strconv.uint64pow10" Rows.laid_internal_strconv_uint64pow10 (by simp[Rows.forewomanLinesRow]);obtain rfl := Option.some.inj ((show Tryz.prog.globalNamed "internal/strconv.uint64pow10" = some 5 by kernel_rfl).symm.trans E);obtain rfl := Option.some.inj ((show (Tryz.prog.globals[5]?).map (·.type) = some 418 by kernel_rfl).symm.trans M);unfold Lib.TabIs;rw[ai, <- Lib.cells_of_tab (zs := Lib.pow10Tab) Tryz.underlying418 Tryz.underlying285 (by kernel_rfl) (by kernel_rfl) bf]
theorem Vh{aj : World}(al : laidMetH Tryz.prog Rows.forewomanLinesRow.laid aj){n : String}{d : DataW Unit}{b : Nat}(hm : (n, d) ∈ Rows.forewomanLinesRow.laid)(V : Tryz.prog.globalNamed n = some b)(aT : (Tryz.prog.globals[b]?).map (·.type) = some 266) : ∃ v, aj.cell? ⟨b, 0, none⟩ = some v /\ (v = .nilIface \/ ∃ nj nM, v = .iface nj nM) := by
  rw[MakeChecks.laidMetH_plain _ _ _ (by kernel_rfl)]at al;obtain⟨_, ab, _⟩ := al;obtain⟨g, t, cs, de, p, E, M, ai, bf⟩ := M2 ab n d hm;obtain rfl := Option.some.inj (V.symm.trans E);obtain rfl := Option.some.inj (aT.symm.trans M);exact ajs V ai ⟨_, Tryz.underlying266⟩ bf
theorem lifted(os : Os)(started : os.Started)(H : Type)(enc : TypeId × Value -> H) :
    ReturnsInHanded {} Tryz.checked os 12 .any (λw args => (Rows.forewomanLinesSpec.pre enc Tryz.prog Tryz.f12 Rows.forewomanLinesRow.domain false w args /\ laidMetH Tryz.prog Rows.forewomanLinesRow.laid w) /\ sizedMet enc Tryz.prog Tryz.f12 (OpenSpec.ofChange Rows.forewomanLinesSpec) false w args)
      (Rows.forewomanLinesSpec.post enc Tryz.prog Tryz.f12 false true false false) := by
  refine ajt (C := Tryz.checked) (X := λw _ => laidMetH Tryz.prog Rows.forewomanLinesRow.laid w) (λ_ _ _ dt h => h.of_heap dt) own started (by kernel_rfl) Tryz.func12
    (ChangeSpec.witness_shaped (enc := enc) (C := Tryz.checked) (os := os) (X := λw _ => laidMetH Tryz.prog Rows.forewomanLinesRow.laid w) false (World.laidAll Tryz.prog os Rows.forewomanLinesRow.laid) #[.agg #[.slice none 0 0, .slice none 0 0, .int .i64 0, .slice none 0 0, .slice none 0 0, .slice none 0 0, .slice none 0 0, .slice none 0 0, .int .i64 0, .slice none 0 0, .slice none 0 0, .slice none 0 0, .slice none 0 0, .int .i64 0, .int .i64 0, .int .i64 0, .int .i64 0, .int .i64 0, .int .i64 0, .int .i64 0], .slice none 0 0] 9 (World.laidAll_os _ _ _)
      (World.shaped_of_ZipB (by kernel_rfl) (by kernel_rfl)) (by kernel_rfl) (by kernel_rfl) (by kernel_rfl)
      (by rw[MakeChecks.laidMetH_plain _ _ _ (by kernel_rfl)]; exact laidMet_laidAll _ (by kernel_rfl) (by kernel_rfl))) ?_
  intro aj base args bI gs before aju yH pU al;exact ajv (ajo H) (N := Rows.uptoBulkAll bI) (ts := .ar tQ HO) (rt := 4) (by kernel_rfl) ajw (λx al _ => ajl (Go.Fer.aj.ajx x (ajp al.1.1) (ajq al.1.2) al.2.1) rfl) (by kernel_rfl) (by kernel_rfl) rfl (by kernel_rfl) rfl (λH bI h => by
    obtain⟨d1, dO, rfl⟩ : ∃ d l, bI = d :: l := by cases bI with | nil => simp[Tryz.f12]at h | cons d l => exact⟨d, l, rfl⟩
    obtain⟨d2, jd, rfl⟩ : ∃ d l, dO = d :: l := by cases dO with | nil => simp[Tryz.f12]at h | cons d l => exact⟨d, l, rfl⟩
    have : jd = [] := by cases jd with | nil => rfl | cons d l => simp[Tryz.f12]at h
    subst this;rfl) aju yH (λd an => M0 an) (ajy pU (Vh al (n := "strconv.ErrSyntax") (d := Rows.laid_strconv_ErrSyntax) (by simp[Rows.forewomanLinesRow]) (by kernel_rfl) (by kernel_rfl)) (Vh al (n := "strconv.ErrRange") (d := Rows.laid_strconv_ErrRange) (by simp[Rows.forewomanLinesRow]) (by kernel_rfl) (by kernel_rfl)) (ajr al))
theorem ho : Rows.ForewomanLinesSaid :=
  OpenClaim.holds_of_wide 12 Tryz.f12 rfl rfl rfl rfl rfl rfl rfl ⟨rfl, rfl, rfl, rfl, rfl⟩ rfl rfl rfl rfl rfl Vf Tryz.func12 aji ajj ajk
    (λos started H enc _ => lifted os started H enc)
theorem proved : Rows.ForewomanLinesCardSaid :=
  Claim7.holds_tied_plain_at .later [] [.data, .data, .data, .data, .sentinel, .sentinel, .pinned] true Rows.forewomanLinesCard.stood.harness true ho (λ_ h => by cases h) iK (λ_ h => by cases h) forewomanLines_row_tie rfl ⟨rfl, rfl⟩ (by kernel_rfl) rfl
    (λf fn aw gC => by
      obtain rfl : f = 12 := Option.some.inj (Vf.symm.trans aw) |>.symm;obtain rfl : fn = Tryz.f12 := (Option.some.inj (Tryz.func12.symm.trans gC)).symm;exact⟨a9, λj t aT => by
        rw[Tryz.params12]at aT;have hm : t ∈ [40, 48] := by simpa using Array.mem_of_getElem? aT
        have gl : ([40, 48].all λu => !Tryz.prog.wantsStandIn u) = true := by kernel_rfl
        exact (show Tryz.prog.wantsStandIn t = false by simpa using List.all_eq_true.1 gl t hm)⟩)
    ajh
end Go.Proofs.YtplfnoecifjgeaaGreatDoor.ForewomanLinesProof
