/- ForewomanDropped returns true for every input of bulk at most 1048576, and leaves its arguments as they were; the row lists variables, tied by the card. Condition: the bound on the bulk of what is read (the statement's own). -/
import Derived.Test.YtplfnoecifjgeaaGreatDoorDroppedG
import Derived.Test.YtplfnoecifjgeaaGreatDoorRows
import Derived.Test.YtplfnoecifjgeaaGreatDoorTie
import Derived.Test.YtplfnoecifjgeaaGreatDoorCards
import Derived.WalkKit
import Derived.ProofKit
import Derived.OpenShut
import Derived.LaidMore
import Derived.Lay
import Derived.SevenTiedAt
import Derived.Stop.Joined
import Derived.JoinedCond
import Derived.Test.YtplfnoecifjgeaaGreatDoorDroppedx
import Derived.Test.YtplfnoecifjgeaaGreatDoorDroppedy
set_option linter.unusedVariables false
set_option linter.unusedSimpArgs false
namespace Go.Proofs.YtplfnoecifjgeaaGreatDoor.ForewomanDroppedProof
open Go.ChangeShapes Go.WideShapes Go.ChangeAt Go.RowKit Go.Fer Go.Fer.og
set_option maxRecDepth 100000
theorem own : ownKnob Tryz.prog.godebug = none := by kernel_rfl
theorem acs{al : Type}{m : A al}{v : al}{p : al -> Prop}(h : m = A.pure v)(ao : p v) : A.cw m p := by rw[h]; exact A.d'.2 ao
theorem JT{H : Type}{d : DataW H}{l : List (DataW H)}(h : d ∈ l) : Rows.uptoBulk d <= Rows.uptoBulkAll l := by
  induction l with
  | nil => cases h
  | cons x r aJ =>
    simp only[Rows.uptoBulkAll];rcases List.mem_cons.1 h with rfl | e
    · omega
    · have := aJ e; omega
theorem acu{H : Type}(d : DataW H) : 1 <= Rows.uptoBulk d := by
  cases d with
  | lit l => cases l <;> simp[Rows.uptoBulk]
  | _ => simp[Rows.uptoBulk]
theorem acv{H : Type}(l : List (DataW H)) : l.length <= Rows.uptoBulkAll l := by
  induction l with
  | nil => simp[Rows.uptoBulkAll]
  | cons x r aJ => have := acu x; simp only[Rows.uptoBulkAll, List.length_cons]; omega
theorem acw(H : Type) : BJ (Rows.uptoBulk (H := H)) where
  len := λe s => by have := acv e; simp only[Rows.uptoBulk]; omega
  BK := λe s d h => by have := JT h; simp only[Rows.uptoBulk]; omega
  Rf := λl d h => by have := JT h; simp only[Rows.uptoBulk]; omega
theorem acx{s : bI}(h : ad.ht t32 s) : fx s := by
  obtain⟨⟨⟨E, _⟩, ⟨U, ah⟩, _, ⟨aZ, _⟩⟩, ⟨bM, _⟩, ⟨dt, gb⟩, ⟨iQ, pW⟩, ⟨acy, _⟩, _⟩ := h;exact⟨⟨E, U, aZ, λm hm => ⟨(ah m hm).1, λs aD => ((ah m hm).2 s aD).2.1.1⟩⟩, bM, dt, iQ, acy, λp ao => (gb p ao).2.2.2.2.1, λx ai => (pW x ai).1.1⟩
theorem acz{c : H.a6}(h : ad.ht tm c) : H.iR c := by
  obtain⟨⟨E, _⟩, ⟨U, _⟩, ⟨ah, _⟩, ⟨aZ, _⟩, _⟩ := h;exact⟨E, U, ah, aZ⟩
theorem acA{au : World}(ai : laidMetH Tryz.prog Rows.forewomanDroppedUptoRow.laid au) : Lib.TabIs Tryz.prog au "internal/strconv.uint64pow10" .u64 Lib.pow10Tab := by
  rw[MakeChecks.laidMetH_plain _ _ _ (by kernel_rfl)]at ai;obtain⟨_, af, _⟩ := ai;obtain⟨g, t, cs, cg, p, E, U, ah, aZ⟩ := JU af "internal/strconv.uint64pow10" Rows.laid_internal_strconv_uint64pow10 (by simp[Rows.forewomanDroppedUptoRow]);obtain rfl := Option.some.inj ((show Tryz.prog.globalNamed "internal/strconv.uint64pow10" = some 5 by kernel_rfl).symm.trans E);obtain rfl := Option.some.inj ((show (Tryz.prog.globals[5]?).map (·.type) = some 418 by kernel_rfl).symm.trans U);unfold Lib.TabIs;rw[ah, <- Lib.cells_of_tab (zs := Lib.pow10Tab) Tryz.underlying418 Tryz.underlying285 (by kernel_rfl) (by kernel_rfl) aZ]
theorem Rg{au : World}(ai : laidMetH Tryz.prog Rows.forewomanDroppedUptoRow.laid au){n : String}{d : DataW Unit}{b : Nat}(hm : (n, d) ∈ Rows.forewomanDroppedUptoRow.laid)(aa : Tryz.prog.globalNamed n = some b)(aK : (Tryz.prog.globals[b]?).map (·.type) = some 266) : ∃ v, au.cell? ⟨b, 0, none⟩ = some v /\ (v = .nilIface \/ ∃ lE l', v = .iface lE l') := by
  rw[MakeChecks.laidMetH_plain _ _ _ (by kernel_rfl)]at ai;obtain⟨_, af, _⟩ := ai;obtain⟨g, t, cs, cg, p, E, U, ah, aZ⟩ := JU af n d hm;obtain rfl := Option.some.inj (aa.symm.trans E);obtain rfl := Option.some.inj (aK.symm.trans U);exact acB aa ah ⟨_, Tryz.underlying266⟩ aZ
theorem acC(H : Type)(enc : TypeId × Value -> H)(au : World)(base : Nat)(args : Array Value)(bj gs : List (DataW H))(before : List MemPlace)
    (acD : ∀ (j : Nat) t v, Tryz.f10.params[j]? = some t -> args[j]? = some v -> Value.okWide Tryz.prog au .any base t v)
    (tn : DataW.Whole enc Tryz.prog Tryz.f10.params.toList Rows.forewomanDroppedSpec.vars false au args.toList bj gs before) (nD : au.ShapedOpen Tryz.prog) (ai : laidMetH Tryz.prog Rows.forewomanDroppedUptoRow.laid au) (an : Rows.uptoSmall H (bj ++ gs) = true) :
    Calls Tryz.prog 10 args au λe pX => ∃ v, e = .returned v /\ Rows.forewomanDroppedSpec.post enc Tryz.prog Tryz.f10 false true false false au args v pX :=
  acE (acw H) (N := 1048576) (ts := .az o2 (.az uZ qL)) (rt := 4) (by kernel_rfl) acF (λx ai ar => acs (Go.Fer.au.acG x (acx ai.1.1) (acz ai.1.2) ar.2.1.1) rfl) (by kernel_rfl) (by kernel_rfl) rfl (by kernel_rfl) rfl (λH bj h => by
    obtain⟨d1, fc, rfl⟩ : ∃ d l, bj = d :: l := by cases bj with | nil => simp[Tryz.f10]at h | cons d l => exact⟨d, l, rfl⟩
    obtain⟨d2, pY, rfl⟩ : ∃ d l, fc = d :: l := by cases fc with | nil => simp[Tryz.f10]at h | cons d l => exact⟨d, l, rfl⟩
    obtain⟨d3, yU, rfl⟩ : ∃ d l, pY = d :: l := by cases pY with | nil => simp[Tryz.f10]at h | cons d l => exact⟨d, l, rfl⟩
    have : yU = [] := by cases yU with | nil => rfl | cons d l => simp[Tryz.f10]at h
    subst this;rfl) acD tn (λd aw => Nat.le_trans (JT (List.mem_append_left _ aw)) (of_decide_eq_true an)) (acH nD (Rg ai (n := "strconv.ErrSyntax") (d := Rows.laid_strconv_ErrSyntax) (by simp[Rows.forewomanDroppedUptoRow]) (by kernel_rfl) (by kernel_rfl)) (Rg ai (n := "strconv.ErrRange") (d := Rows.laid_strconv_ErrRange) (by simp[Rows.forewomanDroppedUptoRow]) (by kernel_rfl) (by kernel_rfl)) (acA ai))
abbrev BL : Array Value := #[.agg #[.slice none 0 0, .slice none 0 0, .int .i64 0, .slice none 0 0, .slice none 0 0, .slice none 0 0, .slice none 0 0, .slice none 0 0, .int .i64 0, .slice none 0 0, .slice none 0 0, .slice none 0 0, .slice none 0 0, .int .i64 0, .int .i64 0, .int .i64 0, .int .i64 0, .int .i64 0, .int .i64 0, .int .i64 0], .slice none 0 0, .agg #[.slice none 0 0, .int .i64 0, .int .i64 0, .int .i64 0, .int .i64 0, .int .i64 0]]
theorem acI(os : Os){H : Type}(enc : TypeId × Value -> H) :
    ∃ (w : World) (tape : Tape) (i : Input), w.os = os /\ (w.forCall tape i).Shaped Tryz.checked.prog /\ i.vars = [] /\ Input.okWide Tryz.checked.prog (w.forCall tape i) .any w.heap.size 10 i /\
      (Rows.OpenSpec.upto Rows.forewomanDroppedSpec).preRow enc Tryz.checked.prog Tryz.f10 Rows.forewomanDroppedUptoRow.domain false Rows.forewomanDroppedUptoRow.laid (w.forCall tape i).memory i.args /\ ({} : Assume).holds Tryz.checked.prog (lone (Frame.enter Tryz.checked.prog 10 i.args .normal) [] (w.forCall tape i)) := by
  have cC : Input.okWideB Tryz.checked.prog ((World.laidAll Tryz.prog os Rows.forewomanDroppedUptoRow.laid).forCall (λ_ _ => 0) ⟨#[], BL, []⟩) 10 ⟨#[], BL, []⟩ = true := by kernel_rfl
  have aD : ((DataW.whole enc Tryz.checked.prog ((World.laidAll Tryz.prog os Rows.forewomanDroppedUptoRow.laid).forCall (λ_ _ => 0) ⟨#[], BL, []⟩).memory Tryz.f10.params.toList (Rows.OpenSpec.upto Rows.forewomanDroppedSpec).vars false BL.toList 10).map λx => Rows.uptoSmall H (x.1 ++ x.2.1)) = some true := by kernel_rfl
  obtain⟨x, ai, an⟩ := Option.map_eq_some_iff.1 aD;refine⟨World.laidAll Tryz.prog os Rows.forewomanDroppedUptoRow.laid, λ_ _ => 0, ⟨#[], BL, []⟩, World.laidAll_os _ _ _, World.shaped_of_ZipB (by kernel_rfl) (by kernel_rfl), (Input.okWide_of_okWideB (base := 0) cC).1, (Input.okWide_of_okWideB cC).2,OpenSpec.preRow_of_cond 10 ai rfl (λk e => by cases e; exact an) (by kernel_rfl) (by rw[MakeChecks.laidMetH_plain _ _ _ (by kernel_rfl)]; exact laidMet_laidAll _ (by kernel_rfl) (by kernel_rfl)), ?_⟩;simp only[Assume.holds];exact⟨by simp, by simp, λ_ => Modest.zero, by simp, by simp⟩
theorem lifted(os : Os)(started : os.Started)(H : Type)(enc : TypeId × Value -> H)(F : Stop.Interp) :
    ReturnsInHanded {} Tryz.checked os 10 .any ((Rows.OpenSpec.upto Rows.forewomanDroppedSpec).preRow enc Tryz.prog Tryz.f10 Rows.forewomanDroppedUptoRow.domain false Rows.forewomanDroppedUptoRow.laid) (((Rows.OpenSpec.upto Rows.forewomanDroppedSpec).at F).post enc Tryz.prog Tryz.f10 false true false false) := by
  refine returnsInHanded_of_calls own started (by kernel_rfl) (acI os enc) ?_;intro w tape i _ nD _ cC gH _;obtain⟨_, _, _, acJ, acK, _, _, _, _, wH⟩ := cC;obtain rfl : acJ = Tryz.f10 := Option.some.inj (acK.symm.trans Tryz.func10);obtain⟨⟨ao, ak⟩, _⟩ := gH;obtain⟨bj, gs, before, hw, _, an⟩ := (OpenSpec.pre_some (k := Rows.uptoSmall) rfl _ _ _ _).1 ao;have tn := DataW.Whole.of_heap (w' := w.forCall tape i) (by rfl) hw;have ai : laidMetH Tryz.prog Rows.forewomanDroppedUptoRow.laid (w.forCall tape i) := laidMetH.of_heap (w := (w.forCall tape i).memory) rfl ak;refine (acC H enc (w.forCall tape i) w.heap.size i.args bj gs before wH tn nD ai an).mono λe pX ⟨v, he, ao⟩ => ?_;subst he;exact ChangeSpec.post_blind ao
theorem gf : Rows.ForewomanDroppedUptoSaid :=
  OpenClaim.holds_of_cond 10 Tryz.f10 rfl rfl rfl rfl rfl rfl rfl ⟨rfl, rfl, rfl, rfl, rfl⟩ rfl rfl rfl rfl rfl Re Tryz.func10 acp acq acr
    (λos started H enc _ F => by rw[OpenClaim.pre_eq_preRow]; exact lifted os started H enc F)
theorem proved : Rows.ForewomanDroppedUptoCardSaid :=
  Claim7.holds_tied_plain_at .later [] [.data, .data, .data, .data, .sentinel, .sentinel, .pinned] true Rows.forewomanDroppedUptoCard.stood.harness true gf (λ_ h => by cases h) hB (λ_ h => by cases h) forewomanDroppedUpto_row_tie rfl ⟨rfl, rfl⟩ (by kernel_rfl) rfl
    (λf fn ar wI => by
      obtain rfl : f = 10 := Option.some.inj (Re.symm.trans ar) |>.symm;obtain rfl : fn = Tryz.f10 := (Option.some.inj (Tryz.func10.symm.trans wI)).symm;exact⟨a9, λj t aK => by
        rw[Tryz.params10]at aK;have hm : t ∈ [40, 48, 87] := by simpa using Array.mem_of_getElem? aK
        have fG : ([40, 48, 87].all λu => !Tryz.prog.wantsStandIn u) = true := by kernel_rfl
        exact (show Tryz.prog.wantsStandIn t = false by simpa using List.all_eq_true.1 fG t hm)⟩)
    aco
end Go.Proofs.YtplfnoecifjgeaaGreatDoor.ForewomanDroppedProof
