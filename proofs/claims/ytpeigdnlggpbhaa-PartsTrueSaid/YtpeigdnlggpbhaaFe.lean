/- Part 5 of the frame of the proof: shallow programs of Go functions, and what they compute. No condition. -/
import Derived.Test.YtpeigdnlggpbhaaFd
import Derived.Test.YtpeigdnlggpbhaaProg
import Derived.KernelRfl
namespace Go.Fer
open M (Step)
set_option linter.unusedVariables false
set_option linter.unusedSimpArgs false
theorem nodup_len_eq {l m : List Int} (hl : l.Nodup) (hm : m.Nodup) (h : ∀ x, x ∈ l ↔ x ∈ m) : l.length = m.length := by
  have le : ∀ {l m : List Int}, l.Nodup → (∀ x ∈ l, x ∈ m) → l.length ≤ m.length := by
    intro l
    induction l with
    | nil => intro m _ _; simp
    | cons x l ih =>
      intro m hn hs
      rw [List.nodup_cons] at hn
      have hx := hs x (by simp)
      have := ih (m := m.erase x) hn.2 fun y hy => (List.mem_erase_of_ne fun (e : y = x) => hn.1 (e ▸ hy)).2 (hs y (List.mem_cons_of_mem _ hy))
      rw [List.length_erase_of_mem hx] at this
      have := List.length_pos_of_mem hx
      simp only [List.length_cons]
      omega
  exact Nat.le_antisymm (le hl fun x hx => (h x).1 hx) (le hm fun x hx => (h x).2 hx)
theorem count_one {l : List Int} (h : l.Nodup) (c : Int) : ((l.countP fun b => decide (b = c)) : Int) = if l.contains c = true then 1 else 0 := by
  induction l with
  | nil => simp
  | cons x l ih =>
    rw [List.nodup_cons] at h
    have ih := ih h.2
    rw [List.countP_cons]
    by_cases hx : x = c
    · subst hx
      have : l.contains x = false := by simpa using h.1
      simp only [this, Bool.false_eq_true, if_false] at ih
      have e : (x :: l).contains x = true := by simp
      simp only [e, if_true, decide_true]
      omega
    · have e : (x :: l).contains c = l.contains c := by
        rw [List.contains_cons]
        have : (c == x) = false := by simp; exact fun e => hx e.symm
        rw [this, Bool.false_or]
      rw [e]
      simp [hx, ih]
abbrev fcShopMends : FC := ⟨.prod tShp (.prod tInts tI), tI, mendedP, fun x => mendV ((x.1.getD (([], [], 0, []), [])).1) x.2.1 x.2.2⟩
theorem sShopMends (x) : M.le (S_parts_shop_mends fcIs.sh shMended x) (fcShopMends.sh x) := M.le_detR fun h => by
  have hp := h
  obtain ⟨o, list, m⟩ := x
  obtain ⟨w, ⟨ho, hw⟩, hl, hs, hm⟩ := h
  change o = _ at ho
  subst ho
  change list.length < 2 ^ 63 at hl
  change ∀ i ∈ list, isSpareV w i = true at hs
  change isMakeV w m = true at hm
  have r1 := isMakeV_iff.1 hm
  have hsl := slots_le hw hm
  have hg : List.getD w.2.1 m.toNat [] = slotsOfV w m := rfl
  have hfc : Fine (canV (casesV w m) list) := canV_fine hw hm _ _ hs fine0
  unfold S_parts_shop_mends
  rw [M.ret_bind]
  refine ⟨hp, fun r ⟨h1, h2, h3⟩ => ?_⟩
  have h3 := h3 w rfl
  have hnn : (0 : Int) ≤ ((slotsOfV w m).length : Int) := by omega
  have hpw : 2 ^ (slotsOfV w m).length ≤ 16 := Nat.le_trans (Nat.pow_le_pow_right (by omega) hsl) (by decide : 2 ^ 4 ≤ 16)
  have hfu : IntKind.i64.wrap (((2 ^ (slotsOfV w m).length : Nat) : Int) - 1) = fullV w m := by
    unfold fullV
    generalize 2 ^ (slotsOfV w m).length = P at hpw
    exact wrap64 (by omega) (by omega)
  have hlen : r.length = (canV (casesV w m) list).length := by
    have := nodup_len_eq h1 hfc.1 h3
    simpa [keysI] using this
  have hc := mlk_pos h2 (fullV w m)
  have hcc : (keysI r).contains (fullV w m) = (canV (casesV w m) list).contains (fullV w m) := by
    rw [Bool.eq_iff_iff]
    simp only [List.contains_iff_mem]
    exact h3 _
  have hll : lenLe (canV (casesV w m) list).length := by have := hfc.len; unfold lenLe; omega
  have hmv : mendV w list m = isV (if (canV (casesV w m) list).contains (fullV w m) = true then 1 else 0) ((canV (casesV w m) list).length : Int) := by
    unfold mendV mendsV
    rw [count_one hfc.1]
  simp only [Option.isSome_some, Option.getD_some, M.req_True, ofNat_def, M.req_true r1, hg, M.req_true hnn, ishl_one (k := (slotsOfV w m).length) (by omega), hfu]
  show M.Ret (M.bind (if decide ((mlkI r (fullV w m)).getD 0 > 0) = true then _ else _) _) _
  rw [hc, hcc, hmv]
  by_cases hf : (canV (casesV w m) list).contains (fullV w m) = true
  · simp only [hf, if_true, M.bind_pure, M.go_next, hlen, M.req_true hll, FC.sh, M.bind_det, M.req_True, M.ret_pure]
  · simp only [hf, Bool.false_eq_true, if_false, M.bind_pure, M.go_next, hlen, M.req_true hll, FC.sh, M.bind_det, M.req_True, M.ret_pure]
abbrev fcMendsC : FC := ⟨.prod tI (.ptr tW), tB, fun x => ∃ w, x.2 = some w ∧ smallW w, fun x => isSpareV (x.2.getD ([], [], 0, [])) x.1⟩
theorem sMendsC (x) : M.le (S_parts_Mends_c1 fcIsSpare.sh x) (fcMendsC.sh x) := M.le_det fun h => by
  obtain ⟨n, o⟩ := x
  obtain ⟨w, hf, h1⟩ := h
  change o = some w at hf
  subst hf
  unfold S_parts_Mends_c1
  simp only [FC.sh, M.bind_det, Option.getD_some, M.req_true h1]
theorem ePMends (w : Wsh) (list : List Int) (m : Int) (h : smallW w) (hl : list.length < 2 ^ 63) : S_parts_Mends fcOpen.sh fcAscending.sh (fcAllF tI).sh fcWithin.sh fcShopMends.sh fcMendsC.sh (w, list, m) = M.pure (mendsR w list m) := by
  unfold S_parts_Mends
  have hml := h.2.1
  have hwl := wrap64 (n := (w.2.1.length : Int) - 1) (by omega) (by omega)
  have hcl : ∀ y ∈ list, fcMendsC.sh (y, some w) = M.pure (isSpareV w y) := fun y _ => M.det_true ⟨w, rfl, h⟩ _
  simp only [FC.sh, M.bind_det, M.gdo_det, M.req_true hl, ofNat_def, hwl, implies_true, M.req_True, le_pred]
  rw [M.req_true (by exact fun _ => ⟨hl, fun y hy => ⟨_, hcl y hy⟩⟩), M.req_true (by exact h)]
  have e : (list.all fun y => (M.det (fcMendsC.pre (y, some w)) (fcMendsC.g (y, some w))).val false) = list.all (isSpareV w) := all_congr' fun y _ => M.val_det
  simp only [e, and_gdo]
  have hb : (ascV list && list.all (isSpareV w) && (decide (0 ≤ m) && decide (m < (w.2.1.length : Int)))) = (isListV w list && isMakeV w m) := by
    unfold isListV isMakeV
    cases ascV list <;> cases list.all (isSpareV w) <;> simp
  rw [hb]
  unfold mendsR
  by_cases hk : knownV w (isListV w list && isMakeV w m) = 0
  · have hw := good_of_known h hk
    have hi := (knownV_0 hk).2.1
    simp only [Bool.and_eq_true] at hi
    simp only [openV_0 hk, hk, ne_eq, not_true, decide_false, Bool.false_eq_true, if_false]
    rw [M.req_true (by exact ⟨w, ⟨rfl, hw⟩, hl, isListV_mem hi.1, hi.2⟩)]
    rfl
  · simp [openV_1 hk, hk]
theorem sPMends (x) : M.le (S_parts_Mends fcOpen.sh fcAscending.sh (fcAllF tI).sh fcWithin.sh fcShopMends.sh fcMendsC.sh x) (fcMends.sh x) := M.le_det fun h => ePMends x.1 x.2.1 x.2.2 h.1 h.2
abbrev fcList : FC := ⟨.int .u64, tInts, fun x => 0 ≤ x ∧ x < 1024, fun x => bitsL 10 x.toNat⟩
theorem eList (b : Nat) (h : b < 1024) : S_parts_list (b : Int) = M.pure (bitsL 10 b) := by
  unfold S_parts_list
  rw [M.loop_list (List.range 10) (fun i (l : List Int) => ((b : Int), (i : Int), l, ())) (fun (i : Nat) l => .next (if decide (b / 2 ^ i % 2 = 1) = true then l ++ [(i : Int)] else l)) (fun l => .next (l, ())) (fun i l => l.length ≤ i) [] ?_ ?_ ?_ ?_]
  · rw [foldS_next, foldl_filter_map]
    simp only [M.bind_pure, M.go_next, List.nil_append]
    rfl
  · rfl
  · simp
  · intro i hi l hl
    have hi : i < 10 := by simpa using hi
    have hwi := wrap64 (n := (i : Int) + 1) (by omega) (by omega)
    have hii : (0 : Int) ≤ (i : Int) := by omega
    have hi10 : (i : Int) < 10 := by omega
    have hll : lenLe (l.length + (0 + 1)) := by unfold lenLe; omega
    have hdiv : b / 2 ^ i ≤ b := Nat.div_le_self _ _
    have hand := iand_oneU (a := b / 2 ^ i) (by omega)
    have hdec : decide (((b / 2 ^ i % 2 : Nat) : Int) = 1) = decide (b / 2 ^ i % 2 = 1) := by rw [decide_eq_decide]; omega
    refine ⟨?_, fun b' hb' => ?_⟩
    · simp only [hi10, decide_true, if_true, List.getElem_range, M.req_true hii, ishr_nat (k := .u64) rfl (a := b) (i := i) (by omega), hand, hdec]
      by_cases hd : decide (b / 2 ^ i % 2 = 1) = true
      · simp only [hd, if_true, add_defN, M.req_true hll, M.bind_pure, M.go_next, add_def, hwi]
        rfl
      · simp only [hd, Bool.false_eq_true, if_false, M.bind_pure, M.go_next, add_def, hwi]
        rfl
    · cases hb'
      split <;> (try simp only [List.length_append, List.length_singleton]) <;> omega
  · intro l hl
    simp
theorem eListI (x : Int) (h : 0 ≤ x ∧ x < 1024) : S_parts_list x = M.pure (bitsL 10 x.toNat) := by
  have := eList x.toNat (by omega)
  rwa [Int.toNat_of_nonneg h.1] at this
theorem sList (x) : M.le (S_parts_list x) (fcList.sh x) := M.le_det fun h => eListI x h
def onesP (x : Int) : Int :=
  let a := IntKind.wrap .u64 (iand .u64 (ishr .u64 x 1) 6148914691236517205 + iand .u64 x 6148914691236517205)
  let a := IntKind.wrap .u64 (iand .u64 (ishr .u64 a 2) 3689348814741910323 + iand .u64 a 3689348814741910323)
  let a := iand .u64 (IntKind.wrap .u64 (ishr .u64 a 4 + a)) 1085102592571150095
  let a := IntKind.wrap .u64 (a + ishr .u64 a 8)
  let a := IntKind.wrap .u64 (a + ishr .u64 a 16)
  let a := IntKind.wrap .u64 (a + ishr .u64 a 32)
  iand .i64 (IntKind.wrap .i64 a) 127
def onesChk : Nat → Bool
  | 0 => true
  | n + 1 => decide (onesP (n : Int) = ((bitsL 10 n).length : Int)) && onesChk n
theorem onesChk_ok : onesChk 1024 = true := by decide +kernel
theorem ones_eq : ∀ (N n : Nat), onesChk N = true → n < N → onesP (n : Int) = ((bitsL 10 n).length : Int)
  | 0, n, _, h => by omega
  | N + 1, n, hc, h => by
    simp only [onesChk, Bool.and_eq_true, decide_eq_true_eq] at hc
    by_cases e : n = N
    · rw [e]; exact hc.1
    · exact ones_eq N n hc.2 (by omega)
abbrev fcOnes : FC := ⟨.int .u64, tI, fun x => 0 ≤ x ∧ x < 1024, fun x => ((bitsL 10 x.toNat).length : Int)⟩
theorem eOnes (x : Int) (h : 0 ≤ x ∧ x < 1024) : S_math_bits_OnesCount64 x = M.pure ((bitsL 10 x.toNat).length : Int) := by
  have := ones_eq 1024 x.toNat onesChk_ok (by omega)
  rw [Int.toNat_of_nonneg h.1] at this
  rw [← this]
  unfold S_math_bits_OnesCount64
  simp
  rfl
theorem sOnes64 (x) : M.le (S_math_bits_OnesCount64 x) (fcOnes.sh x) := M.le_det fun h => eOnes x h
theorem sOnes (c85) (x) : M.le (S_math_bits_OnesCount c85 fcOnes.sh x) (fcOnes.sh x) := M.le_det fun h => by
  unfold S_math_bits_OnesCount
  simp only [FC.sh, M.bind_det]
  rw [M.req_true (by exact h)]
end Go.Fer
namespace Go.Fer
open M (Step)
set_option linter.unusedVariables false
set_option linter.unusedSimpArgs false
theorem ishl_oneU {k : Nat} (h : k < 63) : ishl .u64 1 (k : Int) = ((2 ^ k : Nat) : Int) := by
  show IntKind.u64.wrap (1 * 2 ^ (min ((k : Int).toNat) 64)) = _
  have e : min ((k : Int).toNat) 64 = k := by omega
  rw [e, Int.one_mul]
  have h2 : (2 : Nat) ^ k ≤ 2 ^ 62 := Nat.pow_le_pow_right (by omega) (by omega)
  have e3 : (2 : Nat) ^ 62 = 4611686018427387904 := by decide
  have e2 : (2 : Int) ^ k = ((2 ^ k : Nat) : Int) := by simp
  rw [e2]
  rw [e3] at h2
  generalize 2 ^ k = p at h2
  exact wrapU64 (by omega) (by omega)
theorem bitsL_ext {n m b : Nat} (h : b < 2 ^ n) (hm : n ≤ m) : bitsL m b = bitsL n b := by
  unfold bitsL
  obtain ⟨d, rfl⟩ := Nat.exists_eq_add_of_le hm
  rw [List.range_add, List.filter_append]
  have : (List.map (fun x => n + x) (List.range d)).filter (fun i => decide (b / 2 ^ i % 2 = 1)) = [] := by
    rw [List.filter_eq_nil_iff]
    intro i hi
    obtain ⟨j, _, rfl⟩ := List.mem_map.1 hi
    have h2 : b / 2 ^ (n + j) = 0 := by
      apply Nat.div_eq_of_lt
      exact Nat.lt_of_lt_of_le h (Nat.pow_le_pow_right (by omega) (by omega))
    simp [h2]
  rw [this, List.append_nil]
def okB (w : Wsh) (b : Nat) : Bool := mendsAllV w (bitsL w.1.length b)
def upB (w : Wsh) (k N : Nat) : List Int := ((List.range N).filter fun b => decide ((bitsL w.1.length b).length = k) && okB w b).map fun (b : Nat) => (b : Int)
def upK (w : Wsh) (K : Nat) : List Int := (List.range K).flatMap fun k => upB w k (2 ^ w.1.length)
def seqV (w : Wsh) : List Int := upK w (w.1.length + 1)
theorem upK_succ (w : Wsh) (k : Nat) : upK w (k + 1) = upK w k ++ upB w k (2 ^ w.1.length) := by
  unfold upK
  rw [List.range_succ, List.flatMap_append]
  simp
theorem upB_succ (w : Wsh) (k b : Nat) : upB w k (b + 1) = upB w k b ++ if (decide ((bitsL w.1.length b).length = k) && okB w b) = true then [(b : Int)] else [] := by
  unfold upB
  rw [List.range_succ, List.filter_append, List.map_append]
  congr 1
  rw [List.filter_cons, List.filter_nil]
  cases (decide ((bitsL w.1.length b).length = k) && okB w b) <;> simp
theorem upB_pre (w : Wsh) (k : Nat) {b N : Nat} (h : b ≤ N) : ∃ t, upB w k N = upB w k b ++ t := by
  obtain ⟨d, rfl⟩ := Nat.exists_eq_add_of_le h
  exact ⟨_, by unfold upB; rw [List.range_add, List.filter_append, List.map_append]⟩
theorem upK_pre (w : Wsh) {k K : Nat} (h : k ≤ K) : ∃ t, upK w K = upK w k ++ t := by
  obtain ⟨d, rfl⟩ := Nat.exists_eq_add_of_le h
  exact ⟨_, by unfold upK; rw [List.range_add, List.flatMap_append]⟩
theorem seq_get {w : Wsh} {k b : Nat} (hk : k < w.1.length + 1) (hb : b < 2 ^ w.1.length) (h : (decide ((bitsL w.1.length b).length = k) && okB w b) = true) :
    (seqV w)[(upK w k ++ upB w k b).length]? = some (b : Int) := by
  obtain ⟨t, ht⟩ := upK_pre w (show k + 1 ≤ w.1.length + 1 from hk)
  obtain ⟨u, hu⟩ := upB_pre w k (show b + 1 ≤ 2 ^ w.1.length from hb)
  have e : seqV w = (upK w k ++ upB w k b) ++ ((b : Int) :: (u ++ t)) := by
    unfold seqV
    rw [ht, upK_succ, hu, upB_succ, h]
    simp
  rw [e, List.getElem?_append_right (Nat.le_refl _)]
  simp
theorem upB_len (w : Wsh) (k N : Nat) : (upB w k N).length ≤ N := by
  unfold upB
  rw [List.length_map]
  exact Nat.le_trans (List.length_filter_le _ _) (by simp)
theorem rLists (w : Wsh) (l : Nat) (hw : goodW w) :
    M.Ret (S_parts_shop_lists fcOnes.sh fcList.sh fcShopMends.sh (some (w, lensAll w), l, (l, seqV w, 0, false), ())) fun y => y.1.1 = l ∧ y.1.2.1 = seqV w ∧ (y.1.2.2.2 = false → y.1.2.2.1 = (seqV w).length) := by
  have hhd := wV_head hw.2
  have hpw : 2 ^ w.1.length ≤ 2 ^ 10 := Nat.pow_le_pow_right (by omega) hhd.1
  have hpw : 2 ^ w.1.length ≤ 1024 := hpw
  have hw1 := wrap64 (n := (w.1.length : Int) + 1) (by omega) (by omega)
  have hnn : (0 : Int) ≤ (w.1.length : Int) := by omega
  unfold S_parts_shop_lists
  simp only [Option.isSome_some, Option.getD_some, M.req_True, ofNat_def, add_def, hw1]
  refine M.ret_loop_n (w.1.length + 1) (fun k s => s = (some (w, lensAll w), l, (w.1.length : Int) + 1, (k : Int), (l, seqV w, (upK w k).length, false), ())) rfl ?_ ?_
  · rintro k hk s rfl
    have hwk := wrap64 (n := (k : Int) + 1) (by omega) (by omega)
    have hlt : decide ((k : Int) < (w.1.length : Int) + 1) = true := by simp; omega
    simp only [hlt, if_true, Option.isSome_some, Option.getD_some, M.req_True, M.req_true hnn, ishl_oneU (k := w.1.length) (by omega), M.ret_bind]
    refine M.ret_loop_n (p := fun r => M.Ret (Step.go _ r) _) (2 ^ w.1.length) (fun b s => s = (some (w, lensAll w), l, (k : Int), (w.1.length : Int) + 1, (k : Int), ((2 ^ w.1.length : Nat) : Int), (b : Int), (l, seqV w, (upK w k ++ upB w k b).length, false), ())) ?_ ?_ ?_
    · show _ = _
      simp [upB]
    · rintro b hb s rfl
      have hwb := wrapU64 (n := (b : Int) + 1) (by omega) (by omega)
      have hltb : decide ((b : Int) < ((2 ^ w.1.length : Nat) : Int)) = true := by
        generalize 2 ^ w.1.length = P at *
        simpa using hb
      have hbo : (0 : Int) ≤ (b : Int) ∧ (b : Int) < 1024 := by
        generalize 2 ^ w.1.length = P at *
        omega
      have hbe : bitsL 10 ((b : Int).toNat) = bitsL w.1.length b := by
        rw [Int.toNat_natCast]
        exact bitsL_ext hb hhd.1
      simp only [hltb, if_true, FC.sh, M.bind_det, M.req_true hbo, hbe]
      by_cases hc : (bitsL w.1.length b).length = k
      · have hne : decide (((bitsL w.1.length b).length : Int) ≠ (k : Int)) = false := by simp [hc]
        simp only [hne, Bool.false_eq_true, if_false, Option.isSome_some, Option.getD_some, M.req_True]
        rw [M.loop_listT (List.range w.2.1.length) (fun m (_ : Unit) => (some (w, lensAll w), l, (k : Int), (b : Int), (w.1.length : Int) + 1, (k : Int), ((2 ^ w.1.length : Nat) : Int), (b : Int), ((w.2.1.length : Nat) : Int), (m : Int), (l, seqV w, (upK w k ++ upB w k b).length, false), ()))
          (fun (m : Nat) u => if decide (mendV w (bitsL w.1.length b) (m : Int) ≠ 1) = true then .done (.done (.next (some (w, lensAll w), l, (k : Int), (w.1.length : Int) + 1, (k : Int), ((2 ^ w.1.length : Nat) : Int), (b : Int), (l, seqV w, (upK w k ++ upB w k b).length, false), ()))) else .next u)
          (fun _ => .next (some (w, lensAll w), l, (k : Int), (b : Int), (w.1.length : Int) + 1, (k : Int), ((2 ^ w.1.length : Nat) : Int), (b : Int), (l, seqV w, (upK w k ++ upB w k b).length, false), ())) () ?_ ?_ ?_]
        · rw [foldS_anyN (q := fun (m : Nat) => decide (mendV w (bitsL w.1.length b) (m : Int) = 1)) _ _ (fun m => by simp)]
          have e : ((List.range w.2.1.length).all fun (m : Nat) => decide (mendV w (bitsL w.1.length b) (m : Int) = 1)) = okB w b := rfl
          rw [e]
          by_cases ho : okB w b = true
          · have hcb : (decide ((bitsL w.1.length b).length = k) && okB w b) = true := by simp [hc, ho]
            have hg := seq_get hk hb hcb
            have hg' : List.get?Internal (seqV w) (upK w k ++ upB w k b).length = some (b : Int) := hg
            simp only [ho, if_true, M.bind_pure, M.go_next, hg', true_and, M.req_True, M.ret_bind, add_defN]
            refine ⟨⟨true, trivial⟩, fun y _ => ?_⟩
            cases y with
            | false =>
              simp only [Bool.not_false, if_true, M.bind_pure, M.ret_pure, M.go_done]
              exact ⟨trivial, trivial, fun h => by cases h⟩
            | true =>
              simp only [Bool.not_true, Bool.false_eq_true, if_false, M.bind_pure, M.ret_pure, M.go_next, hwb]
              show _ = _
              rw [upB_succ, hcb]
              simp [Nat.add_assoc]
          · have hcb : (decide ((bitsL w.1.length b).length = k) && okB w b) = false := by simp [ho]
            simp only [ho, Bool.false_eq_true, if_false, M.bind_pure, M.go_next, M.go_done, M.ret_pure, hwb]
            show _ = _
            rw [upB_succ, hcb]
            simp
        · rfl
        · intro m hm u
          have hm : m < w.2.1.length := by simpa using hm
          have hwm := wrap64 (n := (m : Int) + 1) (by omega) (by omega)
          have hbl := bitsL_len w.1.length b
          have hp3 : mendedP (some (w, lensAll w), bitsL w.1.length b, (m : Int)) := ⟨w, ⟨rfl, hw⟩, by show (bitsL w.1.length b).length < 2 ^ 63; omega, fun i hi => isSpareV_iff.2 (bitsL_mem hi), isMakeV_nat hm⟩
          simp only [lt_len hm, if_true, List.getElem_range, FC.sh, M.bind_det, M.req_true hbo, hbe, M.req_true hp3, Option.getD_some, M.bind_pure, add_def, hwm]
          exact fin_step (mk := fun _ : Unit => (some (w, lensAll w), l, (k : Int), (b : Int), (w.1.length : Int) + 1, (k : Int), ((2 ^ w.1.length : Nat) : Int), (b : Int), ((w.2.1.length : Nat) : Int), (m : Int) + 1, (l, seqV w, (upK w k ++ upB w k b).length, false), ()))
        · intro u
          simp
      · have hne : decide (((bitsL w.1.length b).length : Int) ≠ (k : Int)) = true := by simp; omega
        have hcb : (decide ((bitsL w.1.length b).length = k) && okB w b) = false := by simp [hc]
        simp only [hne, if_true, M.bind_pure, M.go_next, M.ret_pure, add_def, hwb]
        show _ = _
        rw [upB_succ, hcb]
        simp
    · rintro s rfl
      simp only [Int.lt_irrefl, decide_false, Bool.false_eq_true, if_false, M.bind_pure, M.ret_pure, M.go_next, hwk]
      show _ = _
      rw [upK_succ]
      rfl
  · rintro s rfl
    have e : decide (((w.1.length + 1 : Nat) : Int) < (w.1.length : Int) + 1) = false := by simp
    simp only [e, Bool.false_eq_true, if_false, M.bind_pure, M.ret_pure]
    exact ⟨trivial, trivial, fun _ => rfl⟩
end Go.Fer
namespace Go.Fer
open M (Step)
set_option linter.unusedVariables false
set_option linter.unusedSimpArgs false
def onesI (x : Int) : Int := ((bitsL 10 x.toNat).length : Int)
def headT : List Int → List Int
  | [] => []
  | x :: l => x :: l.takeWhile fun y => decide (onesI y ≤ onesI x)
def fewL (w : Wsh) : List Int := headT (seqV w)
theorem seqV_mem {w : Wsh} {y : Int} (h : y ∈ seqV w) : ∃ k b : Nat, k ≤ w.1.length ∧ b < 2 ^ w.1.length ∧ y = (b : Int) ∧ (bitsL w.1.length b).length = k ∧ okB w b = true := by
  simp only [seqV, upK, upB, List.mem_flatMap, List.mem_range, List.mem_map, List.mem_filter, Bool.and_eq_true, decide_eq_true_eq] at h
  obtain ⟨k, hk, b, ⟨hb, hc, ho⟩, rfl⟩ := h
  exact ⟨k, b, by omega, hb, rfl, hc, ho⟩
theorem seqV_small {w : Wsh} (hw : goodW w) {y : Int} (h : y ∈ seqV w) : 0 ≤ y ∧ y < 1024 := by
  obtain ⟨k, b, _, hb, rfl, _⟩ := seqV_mem h
  have hhd := wV_head hw.2
  have hpw : 2 ^ w.1.length ≤ 2 ^ 10 := Nat.pow_le_pow_right (by omega) hhd.1
  have hpw : 2 ^ w.1.length ≤ 1024 := hpw
  generalize 2 ^ w.1.length = P at *
  omega
theorem headT_mem {l : List Int} {y : Int} (h : y ∈ headT l) : y ∈ l := by
  cases l with
  | nil => exact h
  | cons x l =>
    rcases List.mem_cons.1 h with rfl | h
    · simp
    · exact List.mem_cons_of_mem _ ((List.takeWhile_sublist _).mem h)
theorem headT_nil {l : List Int} : headT l = [] ↔ l = [] := by cases l <;> simp [headT]
theorem upK_len (w : Wsh) (k : Nat) : (upK w k).length ≤ k * 2 ^ w.1.length := by
  induction k with
  | zero => simp [upK]
  | succ k ih =>
    rw [upK_succ, List.length_append, Nat.succ_mul]
    have := upB_len w k (2 ^ w.1.length)
    omega
theorem seqV_len {w : Wsh} (hw : goodW w) : (seqV w).length ≤ 11264 := by
  have hhd := wV_head hw.2
  have hpw : 2 ^ w.1.length ≤ 2 ^ 10 := Nat.pow_le_pow_right (by omega) hhd.1
  have := upK_len w (w.1.length + 1)
  exact Nat.le_trans this (Nat.le_trans (Nat.mul_le_mul_left _ hpw) (Nat.mul_le_mul_right _ (show w.1.length + 1 ≤ 11 by omega)))
def fewV (w : Wsh) : List Int × Int := if knownV w true ≠ 0 then ([], knownV w true) else if fewL w = [] then ([], 3) else (fewL w, 0)
abbrev fcFewSets : FC := ⟨tW, .prod (.slice (.int .u64)) tI, smallW, fewV⟩
def listsPre (o : Option Shp) : Prop := ∃ w, isShop o w
def listsSeq (o : Option Shp) : List Int := seqV (o.getD (([], [], 0, []), [])).1
theorem rounds_few {body : List Int × Unit → Int → M (Ex × (List Int × Unit))} (l : List Int) (acc : List Int) (x : Int) (hx : acc.head? = some x)
    (h : ∀ acc : List Int, acc.head? = some x → acc.length ≤ 100000 → ∀ y ∈ l, body (acc, ()) y = if decide (onesI y > onesI x) = true then M.pure (Ex.exit 0, (acc, ())) else M.pure (Ex.normal, (acc ++ [y], ()))) (hl : acc.length + l.length ≤ 100000) :
    ∃ e, (e = .normal ∨ e = .exit 0) ∧ rounds body l (acc, ()) = M.pure (e, (acc ++ l.takeWhile (fun y => decide (onesI y ≤ onesI x)), ())) := by
  induction l generalizing acc with
  | nil => exact ⟨_, .inl rfl, by simp [rounds]⟩
  | cons y l ih =>
    simp only [List.length_cons] at hl
    unfold rounds
    rw [h acc hx (by omega) y (by simp)]
    by_cases hc : onesI y > onesI x
    · have h2 : decide (onesI y ≤ onesI x) = false := by simp; omega
      refine ⟨_, .inr rfl, ?_⟩
      simp only [hc, decide_true, if_true, M.bind_pure, List.takeWhile_cons, h2, Bool.false_eq_true, if_false, List.append_nil]
    · have h2 : decide (onesI y ≤ onesI x) = true := by simp; omega
      simp only [hc, decide_false, Bool.false_eq_true, if_false, M.bind_pure, List.takeWhile_cons, h2, if_true]
      obtain ⟨e, he, h3⟩ := ih (acc ++ [y]) (by rw [List.head?_append, hx]; rfl) (fun acc h1 h2 y hy => h acc h1 h2 y (List.mem_cons_of_mem _ hy)) (by simp; omega)
      exact ⟨e, he, by rw [h3]; simp⟩
theorem rounds_fewK {β γ : Type} {body : List Int × Unit → Int → M (Ex × (List Int × Unit))} {k : Ex × (List Int × Unit) → M β} {k2 : β → M γ} {v : M γ} (l : List Int) (acc : List Int) (x : Int) (hx : acc.head? = some x) (hl : acc.length + l.length ≤ 100000)
    (hk : ∀ e, (e = .normal ∨ e = .exit 0) → M.bind (k (e, (acc ++ l.takeWhile (fun y => decide (onesI y ≤ onesI x)), ()))) k2 = v)
    (h : ∀ acc : List Int, acc.head? = some x → acc.length ≤ 100000 → ∀ y ∈ l, body (acc, ()) y = if decide (onesI y > onesI x) = true then M.pure (Ex.exit 0, (acc, ())) else M.pure (Ex.normal, (acc ++ [y], ()))) :
    M.bind (M.bind (rounds body l (acc, ())) k) k2 = v := by
  obtain ⟨e, he, hr⟩ := rounds_few l acc x hx h hl
  rw [hr, M.bind_pure]
  exact hk e he
theorem eFewSets (w : Wsh) (h : smallW w) : S_parts_fewest fcOnes.sh fcOpen.sh listsPre listsSeq w = M.pure (fewV w) := by
  unfold S_parts_fewest
  have hp : smallW (w, true).1 := h
  simp only [FC.sh, M.bind_det, M.req_true hp]
  unfold fewV
  by_cases hk : knownV w true = 0
  · have hw := good_of_known h hk
    have hpre : listsPre (some (w, lensAll w)) := ⟨w, rfl, hw⟩
    have hsl := seqV_len hw
    have hseq : listsSeq (some (w, lensAll w)) = seqV w := rfl
    simp only [openV_0 hk, hk, ne_eq, not_true, decide_false, Bool.false_eq_true, if_false, M.req_true hpre, hseq]
    unfold fewL
    have hsm : ∀ y ∈ seqV w, 0 ≤ y ∧ y < 1024 := fun y hy => seqV_small hw hy
    revert hsm hsl
    generalize seqV w = l
    intro hsl hsm
    cases l with
    | nil =>
      simp only [rounds, headT, M.bind_pure, exC, M.go_next]
      rfl
    | cons x l =>
      have hx := hsm x (by simp)
      have hl1 : lenLe (([] : List Int).length + (0 + 1)) := by unfold lenLe; simp
      unfold rounds
      simp only [List.length_nil, ofNat_def, Int.natCast_zero, gt_iff_lt, Int.lt_irrefl, decide_false, Bool.false_eq_true, false_implies, M.req_True, true_and, and_true, Bool.false_and, if_false, add_defN, implies_true]
      rw [M.req_true (by exact hl1)]
      simp only [M.bind_pure, List.nil_append]
      refine rounds_fewK l [x] x rfl (by simp at hsl ⊢; omega) (fun e he => ?_) (fun acc hacc hal y hy => ?_)
      · rcases he with rfl | rfl
        · simp [exC, M.bind_pure, M.go_next, headT]
        · simp [exC, M.bind_pure, M.go_next, headT]
      · obtain ⟨a, rfl⟩ : ∃ a, acc = x :: a := by cases acc with | nil => cases hacc | cons z a => cases hacc; exact ⟨a, rfl⟩
        have hy := hsm y (List.mem_cons_of_mem _ hy)
        have hll : lenLe ((x :: a).length + (0 + 1)) := by unfold lenLe; omega
        have hpos : (0 : Int) < (((x :: a).length : Nat) : Int) := by simp
        have hg : List.getD (x :: a) (Int.toNat 0) 0 = x := rfl
        simp only [ofNat_def, hpos, gt_iff_lt, decide_true, true_implies, hg, FC.sh, M.safe_det, M.val_det, hx, hy, and_self, M.req_True, Int.le_refl, Bool.true_and, implies_true, add_defN, M.req_true hll]
        show M.bind (if decide (onesI x < onesI y) = true then _ else _) _ = _
        by_cases hc : onesI x < onesI y
        · simp [hc, M.bind_pure]
        · simp [hc, M.bind_pure]
  · simp [openV_1 hk, hk]
theorem sFewSets (x) : M.le (S_parts_fewest fcOnes.sh fcOpen.sh listsPre listsSeq x) (fcFewSets.sh x) := M.le_det fun h => eFewSets x h
end Go.Fer
namespace Go.Fer
open M (Step)
set_option linter.unusedVariables false
set_option linter.unusedSimpArgs false
theorem lists_inv (w : Wsh) : ∀ N, ((List.range N).foldl (stepL w) [] = [] ∧ ∀ b < N, okB w b = false) ∨
    ∃ k, upB w k N ≠ [] ∧ (List.range N).foldl (stepL w) [] = (upB w k N).map (fun y => bitsL w.1.length y.toNat) ∧ ∀ b < N, okB w b = true → k ≤ (bitsL w.1.length b).length := by
  intro N
  induction N with
  | zero => exact .inl ⟨rfl, fun b h => by omega⟩
  | succ N ih =>
    rw [List.range_succ, List.foldl_append]
    simp only [List.foldl_cons, List.foldl_nil]
    rcases ih with ⟨he, hn⟩ | ⟨k, hne, he, hmin⟩
    · rw [he]
      unfold stepL
      simp only [List.length_nil, Int.natCast_zero, gt_iff_lt, Int.lt_irrefl, decide_false, Bool.false_and, Bool.false_eq_true, if_false]
      cases ho : okB w N with
      | false =>
        have ho' : mendsAllV w (bitsL w.1.length N) = false := ho
        simp only [ho', Bool.false_eq_true, if_false]
        refine .inl ⟨trivial, fun b hb => ?_⟩
        by_cases e : b = N
        · rw [e]; exact ho
        · exact hn b (by omega)
      | true =>
        have ho' : mendsAllV w (bitsL w.1.length N) = true := ho
        simp only [ho', if_true, List.nil_append]
        have hu : upB w (bitsL w.1.length N).length N = [] := by
          unfold upB
          rw [List.map_eq_nil_iff, List.filter_eq_nil_iff]
          intro b hb
          rw [hn b (by simpa using hb)]
          simp
        refine .inr ⟨(bitsL w.1.length N).length, ?_, ?_, fun b hb hob => ?_⟩
        · rw [upB_succ, ho]; simp
        · rw [upB_succ, ho, hu]; simp
        · by_cases e : b = N
          · rw [e]; exact Nat.le_refl _
          · rw [hn b (by omega)] at hob; cases hob
    · rw [he]
      have hlen : 0 < (upB w k N).length := List.length_pos_iff.2 hne
      have hfl : firstLen ((upB w k N).map fun y => bitsL w.1.length y.toNat) = (k : Int) := by
        unfold firstLen
        cases hu : upB w k N with
        | nil => exact absurd hu hne
        | cons x l =>
          have hx : x ∈ upB w k N := by rw [hu]; simp
          simp only [upB, List.mem_map, List.mem_filter, Bool.and_eq_true, decide_eq_true_eq] at hx
          obtain ⟨b, ⟨_, hc, _⟩, rfl⟩ := hx
          simp [hc]
      unfold stepL
      rw [hfl]
      have hp : decide ((((upB w k N).map fun y => bitsL w.1.length y.toNat).length : Int) > 0) = true := by simp; omega
      simp only [hp, Bool.true_and]
      by_cases hgt : (k : Int) < ((bitsL w.1.length N).length : Int)
      · have hcf : (decide ((bitsL w.1.length N).length = k) && okB w N) = false := by
          have : (bitsL w.1.length N).length ≠ k := by omega
          simp [this]
        rw [if_pos (by simpa using hgt)]
        refine .inr ⟨k, ?_, ?_, fun b hb hob => ?_⟩
        · rw [upB_succ]; simp [hne]
        · rw [upB_succ, hcf]; simp
        · by_cases e : b = N
          · rw [e]; omega
          · exact hmin b (by omega) hob
      · rw [if_neg (by simpa using hgt)]
        cases ho : okB w N with
        | false =>
          have ho' : mendsAllV w (bitsL w.1.length N) = false := ho
          simp only [ho', Bool.false_eq_true, if_false]
          refine .inr ⟨k, ?_, ?_, fun b hb hob => ?_⟩
          · rw [upB_succ]; simp [hne]
          · rw [upB_succ, ho]; simp
          · by_cases e : b = N
            · rw [e, ho] at hob; cases hob
            · exact hmin b (by omega) hob
        | true =>
          have ho' : mendsAllV w (bitsL w.1.length N) = true := ho
          simp only [ho', if_true]
          by_cases hlt : ((bitsL w.1.length N).length : Int) < (k : Int)
          · rw [if_pos (by simpa using hlt)]
            have hu : upB w (bitsL w.1.length N).length N = [] := by
              unfold upB
              rw [List.map_eq_nil_iff, List.filter_eq_nil_iff]
              intro b hb
              have hb : b < N := by simpa using hb
              intro hcon
              simp only [Bool.and_eq_true, decide_eq_true_eq] at hcon
              have := hmin b hb hcon.2
              omega
            refine .inr ⟨(bitsL w.1.length N).length, ?_, ?_, fun b hb hob => ?_⟩
            · rw [upB_succ, ho]; simp
            · rw [upB_succ, ho, hu]; simp
            · by_cases e : b = N
              · rw [e]; exact Nat.le_refl _
              · have := hmin b (by omega) hob; omega
          · rw [if_neg (by simpa using hlt)]
            have hek : (bitsL w.1.length N).length = k := by omega
            refine .inr ⟨k, ?_, ?_, fun b hb hob => ?_⟩
            · rw [upB_succ]; simp [hne]
            · rw [upB_succ, hek, ho]; simp
            · by_cases e : b = N
              · rw [e]; omega
              · exact hmin b (by omega) hob
theorem upB_ones {w : Wsh} {k N : Nat} (hn : w.1.length ≤ 10) (hN : N ≤ 2 ^ w.1.length) : ∀ y ∈ upB w k N, onesI y = (k : Int) := by
  intro y hy
  simp only [upB, List.mem_map, List.mem_filter, List.mem_range, Bool.and_eq_true, decide_eq_true_eq] at hy
  obtain ⟨b, ⟨hb, hc, _⟩, rfl⟩ := hy
  unfold onesI
  rw [Int.toNat_natCast, bitsL_ext (Nat.lt_of_lt_of_le hb hN) hn, hc]
theorem few_spec {w : Wsh} (hw : goodW w) : (listsV w = [] ∧ fewL w = []) ∨ ∃ k, upB w k (2 ^ w.1.length) ≠ [] ∧ fewL w = upB w k (2 ^ w.1.length) ∧
    listsV w = (upB w k (2 ^ w.1.length)).map (fun y => bitsL w.1.length y.toNat) ∧ ∀ b < 2 ^ w.1.length, okB w b = true → k ≤ (bitsL w.1.length b).length := by
  have hhd := wV_head hw.2
  rcases lists_inv w (2 ^ w.1.length) with ⟨he, hn⟩ | ⟨k, hne, he, hmin⟩
  · refine .inl ⟨he, ?_⟩
    unfold fewL
    rw [headT_nil]
    apply List.eq_nil_iff_forall_not_mem.2
    intro y hy
    obtain ⟨k, b, _, hb, rfl, _, ho⟩ := seqV_mem hy
    rw [hn b hb] at ho
    cases ho
  · refine .inr ⟨k, hne, ?_, he, hmin⟩
    have hkn : k ≤ w.1.length := by
      obtain ⟨x, hx⟩ := List.exists_mem_of_ne_nil _ hne
      simp only [upB, List.mem_map, List.mem_filter, List.mem_range, Bool.and_eq_true, decide_eq_true_eq] at hx
      obtain ⟨b, ⟨_, hc, _⟩, _⟩ := hx
      rw [← hc]
      exact bitsL_len _ _
    have h0 : upK w k = [] := by
      unfold upK
      rw [List.flatMap_eq_nil_iff]
      intro j hj
      have hj : j < k := by simpa using hj
      unfold upB
      rw [List.map_eq_nil_iff, List.filter_eq_nil_iff]
      intro b hb
      have hb : b < 2 ^ w.1.length := by simpa using hb
      intro hcon
      simp only [Bool.and_eq_true, decide_eq_true_eq] at hcon
      have := hmin b hb hcon.2
      omega
    obtain ⟨d, hd⟩ := Nat.exists_eq_add_of_le (show k + 1 ≤ w.1.length + 1 by omega)
    have hseq : ∃ t, seqV w = upB w k (2 ^ w.1.length) ++ t ∧ ∀ y ∈ t, onesI y > (k : Int) := by
      refine ⟨(List.map (fun x => k + 1 + x) (List.range d)).flatMap fun k => upB w k (2 ^ w.1.length), ?_, fun y hy => ?_⟩
      · unfold seqV
        rw [hd]
        unfold upK
        rw [List.range_add, List.flatMap_append]
        show upK w (k + 1) ++ _ = _
        rw [upK_succ, h0, List.nil_append]
      · simp only [List.mem_flatMap, List.mem_map] at hy
        obtain ⟨j, ⟨i, _, rfl⟩, hy⟩ := hy
        rw [upB_ones hhd.1 (Nat.le_refl _) y hy]
        omega
    obtain ⟨t, ht, hgt⟩ := hseq
    unfold fewL
    rw [ht]
    have hon := upB_ones (w := w) (k := k) hhd.1 (Nat.le_refl _)
    revert hne hon
    generalize upB w k (2 ^ w.1.length) = u
    intro hne hon
    cases u with
    | nil => exact absurd rfl hne
    | cons x u =>
      have hx := hon x (by simp)
      show x :: (u ++ t).takeWhile _ = _
      rw [List.takeWhile_append_of_pos (fun y hy => by rw [hx, hon y (List.mem_cons_of_mem _ hy)]; simp)]
      cases t with
      | nil => simp
      | cons z t =>
        have hz := hgt z (by simp)
        have : decide (onesI z ≤ onesI x) = false := by simp; omega
        rw [List.takeWhile_cons, this]
        simp
theorem few_head {w : Wsh} (hw : goodW w) (h : fewL w ≠ []) : ∃ b : Nat, b < 2 ^ w.1.length ∧ (fewL w).getD 0 0 = (b : Int) ∧ (listsV w).getD 0 [] = bitsL w.1.length b ∧ okB w b = true ∧ (listsV w).length = (fewL w).length := by
  rcases few_spec hw with ⟨_, h2⟩ | ⟨k, hne, h1, h2, _⟩
  · exact absurd h2 h
  · rw [h1, h2]
    cases hu : upB w k (2 ^ w.1.length) with
    | nil => exact absurd hu hne
    | cons x l =>
      have hx : x ∈ upB w k (2 ^ w.1.length) := by rw [hu]; simp
      simp only [upB, List.mem_map, List.mem_filter, List.mem_range, Bool.and_eq_true, decide_eq_true_eq] at hx
      obtain ⟨b, ⟨hb, hc, ho⟩, rfl⟩ := hx
      exact ⟨b, hb, rfl, by simp, ho, by simp⟩
theorem fewestR_eq {w : Wsh} (h : smallW w) : fewestR w = (if (fewV w).2 ≠ 0 then (0, (fewV w).2) else (onesI ((fewV w).1.getD 0 0), 0)) := by
  unfold fewestR fewV
  by_cases hk : knownV w true = 0
  · have hw := good_of_known h hk
    have hhd := wV_head hw.2
    simp only [hk, ne_eq, not_true, if_false]
    by_cases hf : fewL w = []
    · have : listsV w = [] := by
        rcases few_spec hw with ⟨h1, _⟩ | ⟨k, hne, h1, _⟩
        · exact h1
        · exact absurd (h1 ▸ hf) hne
      simp [hf, this]
    · obtain ⟨b, hb, h1, h2, h3, h4⟩ := few_head hw hf
      have hl : 0 < (fewL w).length := List.length_pos_iff.2 hf
      have hn0 : ¬ (((listsV w).length : Int) = 0) := by omega
      simp only [hf, if_false, not_true, h1, firstLen, h2, hn0]
      unfold onesI
      rw [Int.toNat_natCast, bitsL_ext hb hhd.1]
  · simp [hk]
theorem few_small {w : Wsh} (hw : goodW w) {y : Int} (h : y ∈ fewL w) : 0 ≤ y ∧ y < 1024 := seqV_small hw (headT_mem h)
theorem fewV_1 {w : Wsh} (h : (fewV w).2 = 0) : knownV w true = 0 ∧ fewL w ≠ [] ∧ (fewV w).1 = fewL w := by
  unfold fewV at h ⊢
  split at h
  · rename_i hk; exact absurd h hk
  · split at h
    · cases h
    · rename_i hk hf
      have hk : knownV w true = 0 := Decidable.not_not.1 hk
      refine ⟨hk, hf, ?_⟩
      simp [hk, hf]
abbrev fcPFewest : FC := ⟨tW, .prod tI tI, smallW, fewestR⟩
theorem ePFewest (w : Wsh) (h : smallW w) : S_parts_Fewest fcFewSets.sh fcOnes.sh w = M.pure (fewestR w) := by
  unfold S_parts_Fewest
  simp only [FC.sh, M.bind_det, M.req_true h]
  rw [fewestR_eq h]
  by_cases hf : (fewV w).2 = 0
  · obtain ⟨hk, hne, h1⟩ := fewV_1 hf
    have hw := good_of_known h hk
    have hl : 0 < (fewL w).length := List.length_pos_iff.2 hne
    have hs := few_small hw (y := (fewL w).getD 0 0) (by cases hq : fewL w with | nil => exact absurd hq hne | cons x l => simp)
    have hr : (0 : Int) ≤ 0 ∧ 0 < Int.ofNat (fewL w).length := ⟨Int.le_refl _, by simp; omega⟩
    simp only [hf, ne_eq, not_true, decide_false, Bool.false_eq_true, if_false, h1, M.req_true hr]
    show M.req _ _ = _
    rw [M.req_true (by exact hs)]
    rfl
  · simp [hf]
theorem sPFewest (x) : M.le (S_parts_Fewest fcFewSets.sh fcOnes.sh x) (fcPFewest.sh x) := M.le_det fun h => ePFewest x h
def keepV (w : Wsh) : List Int × Int := if (fewestR w).2 ≠ 0 then ([], (fewestR w).2) else ((listsV w).getD 0 [], 0)
theorem fewestR_2 {w : Wsh} (h : smallW w) : (fewestR w).2 = (fewV w).2 := by
  rw [fewestR_eq h]
  split
  · rfl
  · rename_i hn; exact (Decidable.not_not.1 hn).symm
abbrev fcKeep : FC := ⟨tW, .prod tInts tI, smallW, keepV⟩
theorem eKeep (w : Wsh) (h : smallW w) : S_parts_Keep fcFewSets.sh fcList.sh w = M.pure (keepV w) := by
  unfold S_parts_Keep keepV
  simp only [FC.sh, M.bind_det, M.req_true h]
  rw [fewestR_2 h]
  by_cases hf : (fewV w).2 = 0
  · obtain ⟨hk, hne, h1⟩ := fewV_1 hf
    have hw := good_of_known h hk
    have hhd := wV_head hw.2
    have hl : 0 < (fewL w).length := List.length_pos_iff.2 hne
    have hs := few_small hw (y := (fewL w).getD 0 0) (by cases hq : fewL w with | nil => exact absurd hq hne | cons x l => simp)
    have hr : (0 : Int) ≤ 0 ∧ 0 < Int.ofNat (fewL w).length := ⟨Int.le_refl _, by simp; omega⟩
    obtain ⟨b, hb, h2, h3, h4, h5⟩ := few_head hw hne
    simp only [hf, ne_eq, not_true, decide_false, Bool.false_eq_true, if_false, h1, M.req_true hr]
    show M.req _ _ = _
    rw [M.req_true (by exact hs)]
    show M.pure (bitsL 10 ((fewL w).getD 0 0).toNat, 0) = _
    rw [h2, Int.toNat_natCast, bitsL_ext hb hhd.1, h3]
  · simp [hf]
theorem sKeep (x) : M.le (S_parts_Keep fcFewSets.sh fcList.sh x) (fcKeep.sh x) := M.le_det fun h => eKeep x h
end Go.Fer
namespace Go.Fer
open M (Step)
set_option linter.unusedVariables false
set_option linter.unusedSimpArgs false
theorem iand_nat {a b : Nat} (ha : a < 9223372036854775808) (hb : b < 9223372036854775808) : iand .u64 (a : Int) (b : Int) = ((a &&& b : Nat) : Int) := by
  show IntKind.u64.wrap ((BitVec.ofInt 64 (a : Int) &&& BitVec.ofInt 64 (b : Int)).toNat : Int) = _
  rw [BitVec.toNat_and, ofInt_small (by omega) (by omega), ofInt_small (by omega) (by omega)]
  simp only [Int.toNat_natCast]
  have : a &&& b ≤ a := Nat.and_le_left
  exact wrapU64 (by omega) (by omega)
theorem bit_iff {b i : Nat} : (b / 2 ^ i % 2 = 1) ↔ b.testBit i = true := by
  rw [Nat.testBit_eq_decide_div_mod_eq]
  simp
theorem mem_bitsL {n b : Nat} {i : Nat} : ((i : Int) ∈ bitsL n b) ↔ i < n ∧ b.testBit i = true := by
  simp only [bitsL, List.mem_map, List.mem_filter, List.mem_range, decide_eq_true_eq, bit_iff]
  constructor
  · rintro ⟨k, ⟨hk, hb⟩, e⟩
    have : k = i := by omega
    exact this ▸ ⟨hk, hb⟩
  · rintro ⟨h1, h2⟩
    exact ⟨i, ⟨h1, h2⟩, rfl⟩
theorem foldl_and : ∀ (l : List Nat) (a : Nat) (i : Nat), (l.foldl (fun x y => x &&& y) a).testBit i = (a.testBit i && l.all fun y => y.testBit i)
  | [], a, i => by simp
  | x :: l, a, i => by
    simp only [List.foldl_cons, List.all_cons]
    rw [foldl_and l, Nat.testBit_and, Bool.and_assoc]
theorem foldl_and_le : ∀ (l : List Nat) (a : Nat), l.foldl (fun x y => x &&& y) a ≤ a
  | [], a => Nat.le_refl _
  | x :: l, a => Nat.le_trans (foldl_and_le l _) Nat.and_le_left
theorem bitsL_congr {n a b : Nat} (h : ∀ i < n, a.testBit i = b.testBit i) : bitsL n a = bitsL n b := by
  unfold bitsL
  congr 1
  apply List.filter_congr
  intro i hi
  have := h i (by simpa using hi)
  rw [decide_eq_decide, bit_iff, bit_iff, this]
theorem few_nat {w : Wsh} (hw : goodW w) : ∃ l : List Nat, fewL w = l.map (fun (b : Nat) => (b : Int)) ∧ listsV w = l.map (bitsL w.1.length) ∧ ∀ b ∈ l, b < 2 ^ w.1.length := by
  rcases few_spec hw with ⟨h1, h2⟩ | ⟨k, _, h1, h2, _⟩
  · exact ⟨[], by simp [h1, h2]⟩
  · refine ⟨_, h1, ?_, fun b hb => ?_⟩
    · rw [h2]
      unfold upB
      rw [List.map_map]
      rfl
    · simp only [List.mem_filter, List.mem_range] at hb
      exact hb.1
theorem needed_eq {w : Wsh} (hw : goodW w) {x : Nat} {l : List Nat} (hl : ∀ b ∈ x :: l, b < 2 ^ w.1.length) (h : listsV w = (x :: l).map (bitsL w.1.length)) :
    (((List.range w.1.length).filter fun (i : Nat) => decide ((((listsV w).countP fun l => l.contains (i : Int)) : Int) = ((listsV w).length : Int))).map fun (i : Nat) => (i : Int)) = bitsL 10 ((x :: l).foldl (fun x y => x &&& y) x) := by
  have hhd := wV_head hw.2
  have hlt : (x :: l).foldl (fun x y => x &&& y) x < 2 ^ w.1.length := Nat.lt_of_le_of_lt (foldl_and_le _ _) (hl x (by simp))
  rw [bitsL_ext hlt hhd.1]
  unfold bitsL
  congr 1
  apply List.filter_congr
  intro i hi
  have hi : i < w.1.length := by simpa using hi
  rw [decide_eq_decide, bit_iff, foldl_and, h]
  have e1 : ((((x :: l).map (bitsL w.1.length)).countP fun l => l.contains (i : Int) : Nat) : Int) = (((x :: l).map (bitsL w.1.length)).length : Int) ↔ (((x :: l).map (bitsL w.1.length)).countP fun l => l.contains (i : Int)) = ((x :: l).map (bitsL w.1.length)).length := by omega
  rw [e1, List.countP_eq_length]
  simp only [List.mem_map, List.contains_iff_mem, Bool.and_eq_true, List.all_eq_true]
  constructor
  · intro hh
    have hb : ∀ b ∈ x :: l, b.testBit i = true := fun b hb => (mem_bitsL.1 (hh _ ⟨b, hb, rfl⟩)).2
    exact ⟨hb x (by simp), hb⟩
  · rintro ⟨_, hh⟩ _ ⟨b, hb, rfl⟩
    exact mem_bitsL.2 ⟨hi, hh b hb⟩
abbrev fcPNeeded : FC := ⟨tW, .prod tInts tI, smallW, neededR⟩
theorem ePNeeded (w : Wsh) (h : smallW w) : S_parts_Needed fcFewSets.sh fcList.sh w = M.pure (neededR w) := by
  unfold S_parts_Needed neededR
  simp only [FC.sh, M.bind_det, M.req_true h]
  rw [fewestR_2 h]
  by_cases hf : (fewV w).2 = 0
  · obtain ⟨hk, hne, h1⟩ := fewV_1 hf
    have hw := good_of_known h hk
    have hhd := wV_head hw.2
    have hpw : 2 ^ w.1.length ≤ 2 ^ 10 := Nat.pow_le_pow_right (by omega) hhd.1
    have hpw : 2 ^ w.1.length ≤ 1024 := hpw
    have hln := seqV_len hw
    have hsub : (fewL w).length ≤ 11264 := by
      have : (fewL w).length ≤ (seqV w).length := by
        unfold fewL
        cases seqV w with
        | nil => simp [headT]
        | cons x l =>
          simp only [headT, List.length_cons]
          have := (List.takeWhile_sublist (p := fun y => decide (onesI y ≤ onesI x)) (l := l)).length_le
          omega
      omega
    obtain ⟨l, e1, e2, e3⟩ := few_nat hw
    cases l with
    | nil => exact absurd e1 hne
    | cons x l =>
      rw [needed_eq hw e3 e2]
      simp only [hf, ne_eq, not_true, decide_false, Bool.false_eq_true, if_false, h1]
      rw [e1] at hsub ⊢
      have hx := e3 x (by simp)
      have hlen : ((x :: l).map fun (b : Nat) => (b : Int)).length = (x :: l).length := by simp
      have hr : (0 : Int) ≤ 0 ∧ 0 < Int.ofNat ((x :: l).map fun (b : Nat) => (b : Int)).length := ⟨Int.le_refl _, by simp⟩
      have hg : List.getD ((x :: l).map fun (b : Nat) => (b : Int)) (Int.toNat 0) 0 = (x : Int) := rfl
      rw [M.req_true hr, hg]
      rw [M.loop_list (x :: l) (fun i (a : Nat) => ((a : Int), (x :: l).map (fun (b : Nat) => (b : Int)), Int.ofNat ((x :: l).map fun (b : Nat) => (b : Int)).length, (i : Int), ())) (fun y a => .next (a &&& y)) (fun (a : Nat) => .next ((a : Int), ())) (fun i a => a < 2 ^ w.1.length) x ?_ ?_ ?_ ?_]
      · rw [foldS_next]
        simp only [M.bind_pure, M.go_next]
        have hlt : (x :: l).foldl (fun x y => x &&& y) x < 2 ^ w.1.length := Nat.lt_of_le_of_lt (foldl_and_le _ _) (e3 x (by simp))
        generalize (x :: l).foldl (fun x y => x &&& y) x = a at hlt
        have ha2 : (0 : Int) ≤ (a : Int) ∧ (a : Int) < 1024 := by omega
        rw [M.req_true (by exact ha2)]
        simp
      · rfl
      · exact hx
      · intro i hi a ha
        have hi2 : i < ((x :: l).map fun (b : Nat) => (b : Int)).length := by rw [hlen]; exact hi
        have hwi := wrap64 (n := (i : Int) + 1) (by omega) (by omega)
        have hy := e3 (x :: l)[i] (List.getElem_mem hi)
        refine ⟨?_, fun b' hb' => ?_⟩
        · simp only [ofNat_def, lt_len hi2, if_true, in_len hi2, M.req_True, getD_nat hi2, List.getElem_map, iand_nat (a := a) (b := (x :: l)[i]) (by omega) (by omega), add_def, hwi]
          rfl
        · cases hb'
          exact Nat.lt_of_le_of_lt Nat.and_le_left ha
      · intro a ha
        simp
  · simp [hf]
theorem sPNeeded (x) : M.le (S_parts_Needed fcFewSets.sh fcList.sh x) (fcPNeeded.sh x) := M.le_det fun h => ePNeeded x h
end Go.Fer
namespace Go.Fer
open M (Step)
set_option linter.unusedVariables false
set_option linter.unusedSimpArgs false
def mulHi (x : Int × Int) : Int := IntKind.wrap .u64
  (Add.add (IntKind.wrap .u64 (Add.add (IntKind.wrap .u64 (ishr .u64 x.1 32 * ishr .u64 x.2 32)) (ishr .u64 (IntKind.wrap .u64 (Add.add (IntKind.wrap
  .u64 (ishr .u64 x.1 32 * iand .u64 x.2 4294967295)) (ishr .u64 (IntKind.wrap .u64 (iand .u64 x.1 4294967295 * iand .u64 x.2 4294967295)) 32))) 32)))
  (ishr .u64 (IntKind.wrap .u64 (Add.add (iand .u64 (IntKind.wrap .u64 (Add.add (IntKind.wrap .u64 (ishr .u64 x.1 32 * iand .u64 x.2 4294967295)) (ishr
  .u64 (IntKind.wrap .u64 (iand .u64 x.1 4294967295 * iand .u64 x.2 4294967295)) 32))) 4294967295) (IntKind.wrap .u64 (iand .u64 x.1 4294967295 * ishr
  .u64 x.2 32)))) 32))
def mulChk : Nat → Bool
  | 0 => true
  | n + 1 => decide (mulHi (1, (n : Int)) = 0) && mulChk n
theorem mulChk_ok : mulChk 11 = true := by decide +kernel
theorem mul_eq : ∀ (N n : Nat), mulChk N = true → n < N → mulHi (1, (n : Int)) = 0
  | 0, n, _, h => by omega
  | N + 1, n, hc, h => by
    simp only [mulChk, Bool.and_eq_true, decide_eq_true_eq] at hc
    by_cases e : n = N
    · rw [e]; exact hc.1
    · exact mul_eq N n hc.2 (by omega)
abbrev fcMul : FC := ⟨.prod (.int .u64) (.int .u64), .prod (.int .u64) (.int .u64), fun x => x.1 = 1 ∧ 0 ≤ x.2 ∧ x.2 ≤ 10, fun x => (0, x.2)⟩
theorem sMul64 (x) : M.le (S_math_bits_Mul64 x) (fcMul.sh x) := M.le_det fun h => by
  obtain ⟨a, b⟩ := x
  obtain ⟨h1, h2, h3⟩ := h
  change a = 1 at h1
  change 0 ≤ b at h2
  change b ≤ 10 at h3
  subst h1
  have h0 := mul_eq 11 b.toNat mulChk_ok (by omega)
  rw [Int.toNat_of_nonneg h2] at h0
  have hw := wrapU64 (n := 1 * b) (by omega) (by omega)
  have h32 : ((0 : Int) ≤ 32) = True := by simp
  unfold S_math_bits_Mul64
  simp only [h32, M.req_True]
  show M.pure (mulHi (1, b), IntKind.wrap .u64 (1 * b)) = _
  rw [h0, hw, Int.one_mul]
theorem sMul (c32) (x) : M.le (S_math_bits_Mul c32 fcMul.sh x) (fcMul.sh x) := M.le_det fun h => by
  unfold S_math_bits_Mul
  simp only [FC.sh, M.bind_det]
  rw [M.req_true (by exact h)]
noncomputable def shRepeat (x : List Int × Int × Unit) : M (List Int × Unit) := M.det (x.1 = [-1] ∧ 0 ≤ x.2.1 ∧ x.2.1 ≤ 10) (List.replicate x.2.1.toNat (-1), ())
theorem rep_step (m J : Nat) (h1 : 1 ≤ m) (h2 : m < J) :
    List.take m (List.replicate m (-1 : Int) ++ List.replicate (J - m) 0) ++ List.take (J - m) (List.take m (List.replicate m (-1 : Int) ++ List.replicate (J - m) 0)) ++
      List.drop (m + (List.take (J - m) (List.take m (List.replicate m (-1 : Int) ++ List.replicate (J - m) 0))).length) (List.replicate m (-1 : Int) ++ List.replicate (J - m) 0)
    = List.replicate (m + min (J - m) m) (-1) ++ List.replicate (J - (m + min (J - m) m)) 0 := by
  have e1 : List.take m (List.replicate m (-1 : Int) ++ List.replicate (J - m) 0) = List.replicate m (-1) := by
    rw [List.take_append_of_le_length (by simp)]; simp
  rw [e1, List.take_replicate, List.replicate_append_replicate, List.length_replicate, List.drop_append, List.length_replicate]
  have e2 : List.drop (m + min (J - m) m) (List.replicate m (-1 : Int)) = [] := by simp
  rw [e2, List.nil_append, List.drop_replicate]
  congr 2
  omega
theorem sRepeat (x) : M.le (S_slices_Repeat fcMul.sh x) (shRepeat x) := M.le_detR fun h => by
  obtain ⟨l, n, u⟩ := x
  obtain ⟨h1, h2, h3⟩ := h
  change l = [-1] at h1
  subst h1
  change 0 ≤ n at h2
  change n ≤ 10 at h3
  obtain ⟨J, rfl⟩ := Int.eq_ofNat_of_zero_le h2
  have hneg : decide ((J : Int) < 0) = false := by simp
  have hw1 : IntKind.u64.wrap (Int.ofNat ([-1] : List Int).length) = 1 := wrapU64 (by simp) (by simp)
  have hwJ := wrapU64 (n := (J : Int)) (by omega) (by omega)
  have hwi := wrap64 (n := (J : Int)) (by omega) (by omega)
  have hp : fcMul.pre (1, (J : Int)) := ⟨rfl, h2, h3⟩
  have hbig : decide ((J : Int) > 9223372036854775807) = false := by simp; omega
  have hll : lenLe J := by unfold lenLe; omega
  have hr : 0 ≤ (J : Int) ∧ True ∧ lenLe (Int.toNat (J : Int)) := ⟨h2, trivial, by rw [Int.toNat_natCast]; exact hll⟩
  unfold S_slices_Repeat
  simp only [hneg, Bool.false_eq_true, if_false, M.bind_pure, M.go_next, hw1, hwJ, FC.sh, M.bind_det]
  rw [M.req_true (by exact ⟨trivial, h2, h3⟩)]
  simp only [gt_iff_lt, Int.lt_irrefl, decide_false, Bool.false_or, Bool.false_eq_true, if_false, M.bind_pure, M.go_next, hwi]
  have hbig' : decide ((9223372036854775807 : Int) < (J : Int)) = false := hbig
  simp only [hbig', Bool.false_eq_true, if_false, M.bind_pure, M.go_next, hwi]
  rw [M.req_true hr]
  simp only [M.req_True, M.ret_bind, Int.toNat_natCast, List.length_replicate, Nat.sub_zero, List.nil_append, List.length_singleton, ofNat_def, add_defN, Nat.zero_add]
  refine M.ret_loop (fun s => ∃ m : Nat, (1 ≤ m ∨ J = 0) ∧ m ≤ J ∧ s = ((m : Int), List.replicate m (-1) ++ List.replicate (J - m) 0, ())) (fun s => J - s.1.toNat) ?_ _ ?_
  · rintro s ⟨m, hm, hmJ, rfl⟩
    have hlen : (List.replicate m (-1 : Int) ++ List.replicate (J - m) 0).length = J := by simp; omega
    simp only [hlen]
    by_cases hlt : m < J
    · have hr1 : 0 ≤ (m : Int) ∧ (m : Int) ≤ (J : Int) ∧ (J : Int) ≤ (J : Int) := by omega
      have hr2 : (0 : Int) ≤ 0 ∧ 0 ≤ (m : Int) ∧ (m : Int) ≤ (J : Int) := by omega
      have hm1 : 1 ≤ m := by omega
      have htl : (List.take m (List.replicate m (-1 : Int) ++ List.replicate (J - m) 0)).length = m := by simp
      simp only [lt_len hlt, if_true, M.req_true hr1, M.req_true hr2, M.req_True, Int.toNat_natCast, htl, add_def]
      rw [M.ret_pure, rep_step m J hm1 hlt]
      have hif : (if J - m ≤ m then J - m else m) = min (J - m) m := by split <;> omega
      rw [hif]
      have hw2 := wrap64 (n := (m : Int) + ((min (J - m) m : Nat) : Int)) (by omega) (by omega)
      refine ⟨⟨m + min (J - m) m, .inl (by omega), by omega, ?_⟩, ?_⟩
      · rw [hw2]; simp
      · simp only [hw2]; omega
    · have : m = J := by omega
      subst this
      simp only [Int.lt_irrefl, decide_false, Bool.false_eq_true, if_false, M.bind_pure, M.ret_pure, M.go_next, Nat.sub_self, List.replicate_zero, List.append_nil]
  · by_cases hJ : J = 0
    · subst hJ
      exact ⟨0, .inr rfl, Nat.le_refl _, by simp⟩
    · refine ⟨1, .inl (Nat.le_refl _), by omega, ?_⟩
      have e1 : (if J ≤ 1 then J else 1) = 1 := by split <;> omega
      have e2 : List.take J ([-1] : List Int) = [-1] := List.take_of_length_le (by simp; omega)
      rw [e1, e2]
      simp [List.drop_replicate]
def holdV (work : List Int) (s : Int) : List Int := ((List.range work.length).filter fun j => decide (work.getD j 0 = s)).map fun (j : Nat) => (j : Int)
theorem holdV_len (work : List Int) (s : Int) : (holdV work s).length ≤ work.length := by
  unfold holdV
  rw [List.length_map]
  exact Nat.le_trans (List.length_filter_le _ _) (by simp)
theorem mem_holdV {work : List Int} {s j : Int} : j ∈ holdV work s ↔ 0 ≤ j ∧ j < (work.length : Int) ∧ work.getD j.toNat 0 = s := by
  simp only [holdV, List.mem_map, List.mem_filter, List.mem_range, decide_eq_true_eq]
  constructor
  · rintro ⟨i, ⟨h1, h2⟩, rfl⟩; exact ⟨by omega, by omega, by simpa using h2⟩
  · rintro ⟨h1, h2, h3⟩; exact ⟨j.toNat, ⟨by omega, h3⟩, by omega⟩
abbrev tTask : Ty := .prod (.slice tInts) (.prod tInts tInts)
abbrev tTaskP : Ty := .ptr (.st tTask)
abbrev fcHolders : FC := ⟨.prod tTaskP tI, tInts, fun x => ∃ t, x.1 = some t ∧ t.2.2.length ≤ 10, fun x => holdV ((x.1.getD ([], [], [])).2.2) x.2⟩
theorem getD_natC {α : Type} {l : List α} {i : Nat} {d : α} : l.getD (Int.toNat (i : Int)) d = l.getD i d := rfl
theorem sHolders (x) : M.le (S_parts_task_holders x) (fcHolders.sh x) := M.le_det fun h => by
  obtain ⟨o, s⟩ := x
  obtain ⟨t, hf, hl⟩ := h
  change o = some t at hf
  subst hf
  unfold S_parts_task_holders
  simp only [Option.isSome_some, Option.getD_some, M.req_True]
  rw [M.loop_list (List.range t.2.2.length) (fun i (l : List Int) => (s, t.2.2, Int.ofNat t.2.2.length, (i : Int), l, ())) (fun (i : Nat) l => .next (if decide (t.2.2.getD i 0 = s) = true then l ++ [(i : Int)] else l)) (fun l => .next (l, ())) (fun i l => l.length ≤ i) [] ?_ ?_ ?_ ?_]
  · rw [foldS_next, foldl_filter_map]
    simp only [M.bind_pure, M.go_next, List.nil_append]
    rfl
  · rfl
  · simp
  · intro i hi l hll
    have hi : i < t.2.2.length := by simpa using hi
    have hwi := wrap64 (n := (i : Int) + 1) (by omega) (by omega)
    have hl2 : lenLe (l.length + (0 + 1)) := by unfold lenLe; omega
    refine ⟨?_, fun b' hb' => ?_⟩
    · simp only [ofNat_def, lt_len hi, if_true, in_len hi, M.req_True, List.getElem_range, Int.toNat_natCast]
      by_cases hc : decide (t.2.2.getD i 0 = s) = true
      · simp only [hc, if_true, add_defN, M.req_true hl2, M.bind_pure, M.go_next, add_def, hwi]; rfl
      · simp only [hc, Bool.false_eq_true, if_false, M.bind_pure, M.go_next, add_def, hwi]; rfl
    · cases hb'
      split <;> (try simp only [List.length_append, List.length_singleton]) <;> omega
  · intro l hll
    simp
noncomputable def shHoldersV (x : Option (List (List Int) × List Int × List Int) × Int × Unit) : M (List Int × Unit) := M.det (∃ t, x.1 = some t ∧ t.2.2.length ≤ 10) (holdV ((x.1.getD ([], [], [])).2.2) x.2.1, ())
theorem sHoldersV (x) : M.le (S_parts_task_holdersV x) (shHoldersV x) := M.le_det fun h => by
  obtain ⟨o, s, u⟩ := x
  obtain ⟨t, hf, hl⟩ := h
  change o = some t at hf
  subst hf
  unfold S_parts_task_holdersV
  simp only [Option.isSome_some, Option.getD_some, M.req_True]
  rw [M.loop_list (List.range t.2.2.length) (fun i (l : List Int) => (s, t.2.2, Int.ofNat t.2.2.length, (i : Int), l, ())) (fun (i : Nat) l => .next (if decide (t.2.2.getD i 0 = s) = true then l ++ [(i : Int)] else l)) (fun l => .next (l, ())) (fun i l => l.length ≤ i) [] ?_ ?_ ?_ ?_]
  · rw [foldS_next, foldl_filter_map]
    simp only [M.bind_pure, M.go_next, List.nil_append]
    rfl
  · rfl
  · simp
  · intro i hi l hll
    have hi : i < t.2.2.length := by simpa using hi
    have hwi := wrap64 (n := (i : Int) + 1) (by omega) (by omega)
    have hl2 : lenLe (l.length + (0 + 1)) := by unfold lenLe; omega
    refine ⟨?_, fun b' hb' => ?_⟩
    · simp only [ofNat_def, lt_len hi, if_true, in_len hi, M.req_True, List.getElem_range, Int.toNat_natCast]
      by_cases hc : decide (t.2.2.getD i 0 = s) = true
      · simp only [hc, if_true, add_defN, M.req_true hl2, M.bind_pure, M.go_next, add_def, hwi]; rfl
      · simp only [hc, Bool.false_eq_true, if_false, M.bind_pure, M.go_next, add_def, hwi]; rfl
    · cases hb'
      split <;> (try simp only [List.length_append, List.length_singleton]) <;> omega
  · intro l hll
    simp
noncomputable def shHoldersIO (x : Int × List (List Int) × List Int × List Int × Unit) : M (List Int × List (List Int) × List Int × List Int × Unit) := M.det (x.2.2.2.1.length ≤ 10) (holdV x.2.2.2.1 x.1, x.2)
theorem sHoldersIO (x) : M.le (S_parts_task_holdersIO x) (shHoldersIO x) := M.le_det fun h => by
  obtain ⟨s, fit, stock, work, u⟩ := x
  change work.length ≤ 10 at h
  unfold S_parts_task_holdersIO
  simp only [M.req_True]
  rw [M.loop_list (List.range work.length) (fun i (l : List Int) => (s, Int.ofNat work.length, (i : Int), l, fit, stock, work, ())) (fun (i : Nat) l => .next (if decide (work.getD i 0 = s) = true then l ++ [(i : Int)] else l)) (fun l => .next (l, fit, stock, work, ())) (fun i l => l.length ≤ i) [] ?_ ?_ ?_ ?_]
  · rw [foldS_next, foldl_filter_map]
    simp only [M.bind_pure, M.go_next, List.nil_append]
    rfl
  · rfl
  · simp
  · intro i hi l hll
    have hi : i < work.length := by simpa using hi
    have hwi := wrap64 (n := (i : Int) + 1) (by omega) (by omega)
    have hl2 : lenLe (l.length + (0 + 1)) := by unfold lenLe; omega
    refine ⟨?_, fun b' hb' => ?_⟩
    · simp only [ofNat_def, lt_len hi, if_true, in_len hi, M.req_True, List.getElem_range, Int.toNat_natCast]
      by_cases hc : decide (work.getD i 0 = s) = true
      · simp only [hc, if_true, add_defN, M.req_true hl2, M.bind_pure, M.go_next, add_def, hwi]; rfl
      · simp only [hc, Bool.false_eq_true, if_false, M.bind_pure, M.go_next, add_def, hwi]; rfl
    · cases hb'
      split <;> (try simp only [List.length_append, List.length_singleton]) <;> omega
  · intro l hll
    simp
end Go.Fer
namespace Go.Fer
open M (Step)
set_option linter.unusedVariables false
set_option linter.unusedSimpArgs false
theorem foldS_inv {α β ρ : Type} {f : α → β → Step β ρ} {fin : β → ρ} (I : Nat → β → Prop) (Q : ρ → Prop) (l : List α) (b : β) (h0 : I 0 b)
    (hs : ∀ i (h : i < l.length) b, I i b → match f l[i] b with | .next b' => I (i + 1) b' | .done r => Q r) (hf : ∀ b, I l.length b → Q (fin b)) : Q (foldS f fin l b) := by
  have key : ∀ (k : Nat) (r : List α) (b : β), k ≤ l.length → r = l.drop k → I k b → Q (foldS f fin r b) := by
    intro k r
    induction r generalizing k with
    | nil =>
      intro b hk hr hI
      have : k = l.length := by have := congrArg List.length hr; simp at this; omega
      subst this
      exact hf b hI
    | cons x r ih =>
      intro b hk hr hI
      have hlt : k < l.length := by
        rcases Nat.lt_or_ge k l.length with h | h
        · exact h
        · rw [List.drop_eq_nil_of_le h] at hr; cases hr
      rw [List.drop_eq_getElem_cons hlt] at hr
      injection hr with hx hr
      have h1 := hs k hlt b hI
      rw [← hx] at h1
      simp only [foldS]
      cases hf' : f x b with
      | next b' => rw [hf'] at h1; exact ih (k + 1) b' hlt hr h1
      | done r' => rw [hf'] at h1; exact h1
  exact key 0 l b (Nat.zero_le _) rfl h0
def mval (m : List (Int × Int)) (k : Int) : Int := (mlkI m k).getD 0
theorem mval_def (m : List (Int × Int)) (k : Int) : Option.getD (Option.map (fun x => x.2) (List.find? (fun p => decide (k = p.1)) m)) 0 = mval m k := rfl
theorem mval_mset (k v k' : Int) (m : List (Int × Int)) : mval (msetI m k v) k' = if k' = k then v else mval m k' := by
  unfold mval
  rw [mlkI_mset]
  split <;> rfl
def unas (n : Nat) (m : List (Int × Int)) : Nat := (List.range n).countP fun (s : Nat) => decide (mval m (s : Int) = 0)
theorem countP_one {p q : Nat → Bool} {s : Nat} (h : ∀ x, x ≠ s → p x = q x) (hp : p s = true) (hq : q s = false) : ∀ (l : List Nat), l.Nodup → s ∈ l → l.countP p = l.countP q + 1
  | [], _, hs => by cases hs
  | x :: l, hn, hs => by
    rw [List.nodup_cons] at hn
    rw [List.countP_cons, List.countP_cons]
    by_cases e : x = s
    · subst e
      have : l.countP p = l.countP q := List.countP_congr fun y hy => by
        have : y ≠ x := fun e => hn.1 (e ▸ hy)
        rw [h y this]
      rw [this, hp, hq]; simp
    · have := countP_one h hp hq l hn.2 (by rcases List.mem_cons.1 hs with h | h; exact absurd h.symm e; exact h)
      rw [this, h x e]
      omega
theorem unas_mark {n : Nat} {m : List (Int × Int)} {s v : Int} (h0 : 0 ≤ s) (hn : s < (n : Int)) (hm : mval m s = 0) (hv : v ≠ 0) : unas n m = unas n (msetI m s v) + 1 := by
  unfold unas
  refine countP_one (s := s.toNat) (fun x hx => ?_) ?_ ?_ _ List.nodup_range (by simp; omega)
  · rw [mval_mset, if_neg (by omega)]
  · rw [Int.toNat_of_nonneg h0]; simp [hm]
  · rw [mval_mset, if_pos (by omega)]; simp [hv]
theorem unas_mono {n : Nat} {a b : List (Int × Int)} (h : ∀ k, 0 ≤ mval a k ∧ mval a k ≤ mval b k) : unas n b ≤ unas n a := by
  unfold unas
  refine List.countP_mono_left fun x _ hx => ?_
  have := h (x : Int)
  simp only [decide_eq_true_eq] at hx ⊢
  omega
abbrev GSt := List Int × List (Int × Int)
def oStep (rec : Int → GSt → Bool × GSt) (j : Int) (st : GSt) : Step GSt (Bool × GSt) := if (rec j st).1 = true then .done (true, (rec j st).2) else .next (rec j st).2
def giveO (rec : Int → GSt → Bool × GSt) (h : List Int) (st : GSt) : Bool × GSt := foldS (oStep rec) (fun st => (false, st)) h st
def gStep (stock : List Int) (rec : Int → GSt → Bool × GSt) (job : Int) (s : Int) (st : GSt) : Step GSt (Bool × GSt) :=
  if decide (mval st.2 s + 1 > 1) = true then .next (st.1, msetI st.2 s (mval st.2 s + 1))
  else if decide (((holdV st.1 s).length : Int) < stock.getD s.toNat 0) = true then .done (true, (st.1.set job.toNat s, msetI st.2 s (mval st.2 s + 1)))
  else if (giveO rec (holdV st.1 s) (st.1, msetI st.2 s (mval st.2 s + 1))).1 = true then .done (true, ((giveO rec (holdV st.1 s) (st.1, msetI st.2 s (mval st.2 s + 1))).2.1.set job.toNat s, (giveO rec (holdV st.1 s) (st.1, msetI st.2 s (mval st.2 s + 1))).2.2))
  else .next (giveO rec (holdV st.1 s) (st.1, msetI st.2 s (mval st.2 s + 1))).2
def giveL (stock : List Int) (rec : Int → GSt → Bool × GSt) (job : Int) (l : List Int) (st : GSt) : Bool × GSt := foldS (gStep stock rec job) (fun st => (false, st)) l st
def giveV (fit : List (List Int)) (stock : List Int) : Nat → Int → GSt → Bool × GSt
  | 0 => fun _ st => (false, st)
  | f + 1 => fun job st => giveL stock (giveV fit stock f) job (fit.getD job.toNat []) st
structure GC (n : Nat) (fit : List (List Int)) (stock : List Int) : Prop where
  nl : n ≤ 10
  fl : fit.length ≤ 10
  sl : stock.length = n
  fits : ∀ l ∈ fit, l.Nodup ∧ ∀ s ∈ l, 0 ≤ s ∧ s < (n : Int)
def GD (n J f : Nat) (st : GSt) : Prop := st.1.length = J ∧ (∀ k, 0 ≤ mval st.2 k ∧ mval st.2 k + 10 * (unas n st.2 : Int) + (f : Int) ≤ 1000) ∧ unas n st.2 < f
def GPost (n J : Nat) (st r : GSt) : Prop := r.1.length = J ∧ ∀ k, mval st.2 k ≤ mval r.2 k ∧ mval r.2 k + 10 * (unas n r.2 : Int) ≤ mval st.2 k + 10 * (unas n st.2 : Int) + 1
def OD (n J f : Nat) (st : GSt) : Prop := st.1.length = J ∧ (∀ k, 0 ≤ mval st.2 k ∧ mval st.2 k + 10 * (unas n st.2 : Int) + (f : Int) + 10 ≤ 1000) ∧ unas n st.2 < f
def OI (n J : Nat) (st1 : GSt) (i : Nat) (st : GSt) : Prop := st.1.length = J ∧ ∀ k, mval st1.2 k ≤ mval st.2 k ∧ mval st.2 k + 10 * (unas n st.2 : Int) ≤ mval st1.2 k + 10 * (unas n st1.2 : Int) + (i : Int)
theorem OI_zero {n J : Nat} {st : GSt} (h : st.1.length = J) : OI n J st 0 st := ⟨h, fun k => ⟨Int.le_refl _, by omega⟩⟩
theorem OI_GD {n J f i : Nat} {st1 st : GSt} (h1 : OD n J f st1) (h : OI n J st1 i st) (hi : i ≤ 10) : GD n J f st := by
  have hu := unas_mono (n := n) (a := st1.2) (b := st.2) fun k => ⟨(h1.2.1 k).1, (h.2 k).1⟩
  refine ⟨h.1, fun k => ?_, by have := h1.2.2; omega⟩
  have a := h1.2.1 k
  have b := h.2 k
  omega
theorem OI_le {n J i k : Nat} {st1 st : GSt} (h : OI n J st1 i st) (hik : i ≤ k) : OI n J st1 k st := ⟨h.1, fun q => ⟨(h.2 q).1, by have := (h.2 q).2; omega⟩⟩
theorem OI_succ {n J i : Nat} {st1 st r : GSt} (h : OI n J st1 i st) (hr : GPost n J st r) : OI n J st1 (i + 1) r := by
  refine ⟨hr.1, fun k => ?_⟩
  have a := h.2 k
  have b := hr.2 k
  omega
def RecOk (n J f : Nat) (rec : Int → GSt → Bool × GSt) : Prop := ∀ j st, 0 ≤ j → j < (J : Int) → GD n J f st → GPost n J st (rec j st).2
theorem giveO_post {n J f : Nat} {rec : Int → GSt → Bool × GSt} (hrec : RecOk n J f rec) {st : GSt} (h1 : OD n J f st) (h : List Int) (hl : h.length ≤ 10) (hj : ∀ j ∈ h, 0 ≤ j ∧ j < (J : Int)) : OI n J st 10 (giveO rec h st).2 := by
  unfold giveO
  refine foldS_inv (fun i st' => OI n J st i st') (fun r : Bool × GSt => OI n J st 10 r.2) h st (OI_zero h1.1) (fun i hi b hb => ?_) fun b hb => ?_
  · have hm := hj h[i] (List.getElem_mem hi)
    have hp := hrec h[i] b hm.1 hm.2 (OI_GD h1 hb (by omega))
    have := OI_succ hb hp
    unfold oStep
    split
    · rename_i heq
      split at heq
      · cases heq
      · cases heq; exact this
    · rename_i heq
      split at heq
      · cases heq
        exact OI_le this (by omega)
      · cases heq
  · exact OI_le hb (by omega)
def LI (n J : Nat) (st0 : GSt) (l : List Int) (i : Nat) (st : GSt) : Prop := st.1.length = J ∧ ∀ k, mval st0.2 k ≤ mval st.2 k ∧ mval st.2 k + 10 * (unas n st.2 : Int) ≤ mval st0.2 k + 10 * (unas n st0.2 : Int) + (if k ∈ l.take i then 1 else 0)
theorem take_notin {l : List Int} (hn : l.Nodup) {i : Nat} (hi : i < l.length) : l[i] ∉ l.take i := by
  intro h
  obtain ⟨k, hk, e⟩ := List.mem_take_iff_getElem.1 h
  have := (List.getElem_inj hn).1 e
  omega
theorem take_memS {l : List Int} {i : Nat} (hi : i < l.length) {k : Int} : k ∈ l.take (i + 1) ↔ k ∈ l.take i ∨ k = l[i] := by
  rw [List.take_add_one, List.getElem?_eq_getElem hi, List.mem_append]
  simp only [Option.toList, List.mem_singleton]
theorem LI_small {n J f : Nat} {st0 st : GSt} {l : List Int} {i : Nat} (h0 : GD n J (f + 1) st0) (h : LI n J st0 l i st) (k : Int) : 0 ≤ mval st.2 k ∧ mval st.2 k + 10 * (unas n st.2 : Int) + (f : Int) ≤ 1000 := by
  have a := h0.2.1 k
  have b := h.2 k
  split at b <;> omega
theorem LI_skip {n J f : Nat} {st0 st : GSt} {l : List Int} {i : Nat} (hn : l.Nodup) (hi : i < l.length) (h0 : GD n J (f + 1) st0) (h : LI n J st0 l i st) (hp : mval st.2 l[i] + 1 > 1) : LI n J st0 l (i + 1) (st.1, msetI st.2 l[i] (mval st.2 l[i] + 1)) := by
  refine ⟨h.1, fun k => ?_⟩
  have hu : unas n (msetI st.2 l[i] (mval st.2 l[i] + 1)) = unas n st.2 := by
    unfold unas
    refine List.countP_congr fun x hx => ?_
    rw [mval_mset]
    split
    · rename_i e; rw [e]; simp only [decide_eq_true_eq]; omega
    · exact Iff.rfl
  have a := h.2 k
  have hnt := take_notin hn hi
  simp only [mval_mset, hu, take_memS hi]
  by_cases e : k = l[i]
  · subst e
    simp only [hnt, if_false] at a
    simp only [if_true, or_true]
    omega
  · simp only [e, if_false, or_false]
    exact a
theorem LI_mark {n J f : Nat} {st0 st : GSt} {l : List Int} {i : Nat} (hn : l.Nodup) (hi : i < l.length) (hr : 0 ≤ l[i] ∧ l[i] < (n : Int)) (h0 : GD n J (f + 1) st0) (h : LI n J st0 l i st) (hp : ¬ mval st.2 l[i] + 1 > 1) :
    OD n J f (st.1, msetI st.2 l[i] (mval st.2 l[i] + 1)) ∧ ∀ r, OI n J (st.1, msetI st.2 l[i] (mval st.2 l[i] + 1)) 10 r → LI n J st0 l (i + 1) r := by
  have hs0 := (LI_small h0 h l[i]).1
  have hz : mval st.2 l[i] = 0 := by omega
  have hu := unas_mark (n := n) (m := st.2) (v := mval st.2 l[i] + 1) hr.1 hr.2 hz (by omega)
  have hum := unas_mono (n := n) (a := st0.2) (b := st.2) fun k => ⟨(h0.2.1 k).1, (h.2 k).1⟩
  have hnt := take_notin hn hi
  refine ⟨⟨h.1, fun k => ?_, ?_⟩, fun r hr => ⟨hr.1, fun k => ?_⟩⟩
  · have a := LI_small h0 h k
    have b := h0.2.1 k
    have c := h.2 k
    simp only [mval_mset]
    by_cases e : k = l[i]
    · subst e
      simp only [hnt, if_false] at c
      simp only [if_true]
      omega
    · simp only [e, if_false]
      split at c <;> omega
  · have := h0.2.2
    show unas n (msetI st.2 l[i] (mval st.2 l[i] + 1)) < f
    omega
  · have c := h.2 k
    have d := hr.2 k
    simp only [mval_mset] at d
    simp only [take_memS hi]
    by_cases e : k = l[i]
    · subst e
      simp only [hnt, if_false] at c
      simp only [if_true] at d
      simp only [or_true, if_true]
      omega
    · simp only [e, if_false] at d
      simp only [e, or_false]
      omega
theorem giveL_post {n J f : Nat} {stock : List Int} {rec : Int → GSt → Bool × GSt} (hrec : RecOk n J f rec) (hJ : J ≤ 10) {job : Int} {l : List Int} (hl : l.Nodup ∧ ∀ s ∈ l, 0 ≤ s ∧ s < (n : Int)) {st : GSt} (h0 : GD n J (f + 1) st) : GPost n J st (giveL stock rec job l st).2 := by
  unfold giveL
  have fin : ∀ i st', LI n J st l i st' → GPost n J st st' := fun i st' h => ⟨h.1, fun k => by have := h.2 k; split at this <;> omega⟩
  refine foldS_inv (fun i st' => LI n J st l i st') (fun r : Bool × GSt => GPost n J st r.2) l st ⟨h0.1, fun k => ⟨Int.le_refl _, by simp⟩⟩ (fun i hi b hb => ?_) fun b hb => fin _ _ hb
  unfold gStep
  by_cases h1 : mval b.2 l[i] + 1 > 1
  · simp only [h1, decide_true, if_true]
    exact LI_skip hl.1 hi h0 hb h1
  · obtain ⟨hod, hoi⟩ := LI_mark hl.1 hi (hl.2 _ (List.getElem_mem hi)) h0 hb h1
    simp only [h1, decide_false, Bool.false_eq_true, if_false]
    by_cases h2 : decide (((holdV b.1 l[i]).length : Int) < stock.getD l[i].toNat 0) = true
    · simp only [h2, if_true]
      have h3 := hoi _ ⟨hod.1, fun k => ⟨Int.le_refl _, by omega⟩⟩
      have h4 := fin _ _ h3
      exact ⟨by simpa using h4.1, h4.2⟩
    · simp only [h2, Bool.false_eq_true, if_false]
      have hp := giveO_post hrec hod (holdV b.1 l[i]) (by have := holdV_len b.1 l[i]; have := hb.1; omega) (fun j hj => by have := mem_holdV.1 hj; have := hb.1; omega)
      have h3 := hoi _ hp
      by_cases h5 : (giveO rec (holdV b.1 l[i]) (b.1, msetI b.2 l[i] (mval b.2 l[i] + 1))).1 = true
      · simp only [h5, if_true]
        have h4 := fin _ _ h3
        exact ⟨by simpa using h4.1, h4.2⟩
      · simp only [h5, Bool.false_eq_true, if_false]
        exact h3
theorem fit_get {n : Nat} {fit : List (List Int)} {stock : List Int} (hc : GC n fit stock) (j : Int) : (fit.getD j.toNat []).Nodup ∧ ∀ s ∈ fit.getD j.toNat [], 0 ≤ s ∧ s < (n : Int) := by
  by_cases h : j.toNat < fit.length
  · have : fit.getD j.toNat [] ∈ fit := by rw [List.getD_eq_getElem?_getD, List.getElem?_eq_getElem h]; exact List.getElem_mem h
    exact hc.fits _ this
  · rw [List.getD_eq_getElem?_getD, List.getElem?_eq_none (by omega)]
    simp
theorem giveV_post {n : Nat} {fit : List (List Int)} {stock : List Int} (hc : GC n fit stock) : ∀ f, RecOk n fit.length f (giveV fit stock f)
  | 0 => fun j st _ _ h => absurd h.2.2 (by omega)
  | f + 1 => fun j st _ _ h => giveL_post (giveV_post hc f) hc.fl (fit_get hc j) h
end Go.Fer
namespace Go.Fer
open M (Step)
set_option linter.unusedVariables false
set_option linter.unusedSimpArgs false
def Step.mapD {β ρ ρ' : Type} (g : ρ → ρ') : Step β ρ → Step β ρ'
  | .next b => .next b
  | .done r => .done (g r)
def foldP {α β ρ : Type} (f : α → β → Step β ρ) : List α → β → Step β ρ
  | [], b => .next b
  | x :: l, b => match f x b with
    | .next b' => foldP f l b'
    | .done r => .done r
def Step.fin {β ρ : Type} (n : β → ρ) : Step β ρ → ρ
  | .next b => n b
  | .done r => r
theorem foldS_P {α β ρ : Type} {f : α → β → Step β ρ} {n : β → ρ} : ∀ (l : List α) (b : β), foldS f n l b = Step.fin n (foldP f l b)
  | [], b => rfl
  | x :: l, b => by
    simp only [foldS, foldP]
    cases f x b with
    | next b' => exact foldS_P l b'
    | done r => rfl
theorem foldP_mapD {α β ρ ρ' : Type} {f : α → β → Step β ρ} {g : ρ → ρ'} : ∀ (l : List α) (b : β), foldP (fun x b => Step.mapD g (f x b)) l b = Step.mapD g (foldP f l b)
  | [], b => rfl
  | x :: l, b => by
    simp only [foldP]
    cases f x b with
    | next b' => exact foldP_mapD l b'
    | done r => rfl
theorem oStep_true {rec : Int → GSt → Bool × GSt} : ∀ (l : List Int) (st : GSt) r, foldP (oStep rec) l st = .done r → r.1 = true
  | [], st, r, h => by cases h
  | j :: l, st, r, h => by
    simp only [foldP] at h
    cases ho : oStep rec j st with
    | next b' => rw [ho] at h; exact oStep_true l b' r h
    | done r' =>
      rw [ho] at h
      cases h
      unfold oStep at ho
      split at ho
      · cases ho; rfl
      · cases ho
abbrev GIn := Int × List (List Int) × List Int × List Int × List (Int × Int) × Unit
abbrev GOut := Bool × List (List Int) × List Int × List Int × List (Int × Int) × Unit
def giveOut (fit : List (List Int)) (stock : List Int) (r : Bool × GSt) : GOut := (r.1, fit, stock, r.2.1, r.2.2, ())
def GPre (f : Nat) (x : GIn) : Prop := ∃ n, GC n x.2.1 x.2.2.1 ∧ 0 ≤ x.1 ∧ x.1 < (x.2.1.length : Int) ∧ GD n x.2.1.length f (x.2.2.2.1, x.2.2.2.2.1)
noncomputable def shGive (f : Nat) (x : GIn) : M GOut := M.det (GPre f x) (giveOut x.2.1 x.2.2.1 (giveV x.2.1 x.2.2.1 f x.1 (x.2.2.2.1, x.2.2.2.2.1)))
theorem eGive {n f : Nat} {fit : List (List Int)} {stock : List Int} (hc : GC n fit stock) {job : Int} (hj : 0 ≤ job ∧ job < (fit.length : Int)) {st : GSt} (h0 : GD n fit.length (f + 1) st) :
    S_parts_task_give shHoldersIO (shGive f) (job, fit, stock, st.1, st.2, ()) = M.pure (giveOut fit stock (giveV fit stock (f + 1) job st)) := by
  have hfl := hc.fl
  have hrec := giveV_post hc f
  have hl := fit_get hc job
  have hlb : (fit.getD job.toNat []).length ≤ 10 := by
    have := nodup_bound n _ hl.1 hl.2
    have := hc.nl
    omega
  unfold S_parts_task_give
  simp only [ofNat_def, M.req_True, M.req_true hj, mval_def]
  show _ = M.pure (giveOut fit stock (giveL stock (giveV fit stock f) job (fit.getD job.toNat []) st))
  generalize fit.getD job.toNat [] = l at hl hlb
  rw [M.loop_list l (fun i (b : GSt) => (job, l, (l.length : Int), (i : Int), fit, stock, b.1, b.2, ())) (fun s b => Step.mapD (fun r => .done (giveOut fit stock r)) (gStep stock (giveV fit stock f) job s b)) (fun b => .next (fit, stock, b.1, b.2, ())) (fun i b => LI n fit.length st l i b) st ?_ ?_ ?_ ?_]
  · unfold giveL
    rw [foldS_P, foldS_P, foldP_mapD]
    cases foldP (gStep stock (giveV fit stock f) job) l st <;> (simp only [Step.mapD, Step.fin, M.bind_pure, M.go_next, M.go_done]; try rfl)
  · rfl
  · exact ⟨h0.1, fun k => ⟨Int.le_refl _, by simp⟩⟩
  · intro i hi b hb
    have hs := hl.2 _ (List.getElem_mem hi)
    have hwi := wrap64 (n := (i : Int) + 1) (by omega) (by omega)
    have hsm := LI_small h0 hb l[i]
    have hwm := wrap64 (n := mval b.2 l[i] + 1) (by omega) (by omega)
    have hbl : b.1.length ≤ 10 := by have := hb.1; omega
    have hmm : mval (msetI b.2 l[i] (mval b.2 l[i] + 1)) l[i] = mval b.2 l[i] + 1 := by rw [mval_mset, if_pos rfl]
    have hst : 0 ≤ l[i] ∧ l[i] < (stock.length : Int) := by rw [hc.sl]; exact hs
    have hjw : 0 ≤ job ∧ job < (b.1.length : Int) := by rw [hb.1]; exact hj
    simp only [ofNat_def, lt_len hi, if_true, getD_nat hi, in_len hi, M.req_True, add_def, hwm, hmm]
    by_cases h1 : mval b.2 l[i] + 1 > 1
    · have hg : gStep stock (giveV fit stock f) job l[i] b = .next (b.1, msetI b.2 l[i] (mval b.2 l[i] + 1)) := by
        unfold gStep; simp only [h1, decide_true, if_true]
      rw [hg]
      refine ⟨?_, fun b' hb' => ?_⟩
      · simp only [h1, decide_true, if_true, M.bind_pure, M.go_next, hwi]
        rfl
      · cases hb'
        exact LI_skip hl.1 hi h0 hb h1
    · obtain ⟨hod, hoi⟩ := LI_mark hl.1 hi hs h0 hb h1
      simp only [h1, decide_false, Bool.false_eq_true, if_false]
      show M.bind (M.bind (shHoldersIO (l[i], fit, stock, b.1, ())) _) _ = _ ∧ _
      unfold shHoldersIO
      simp only [M.bind_det, M.req_true hbl, M.req_true hst]
      by_cases h2 : decide (((holdV b.1 l[i]).length : Int) < stock.getD l[i].toNat 0) = true
      · have hg : gStep stock (giveV fit stock f) job l[i] b = .done (true, (b.1.set job.toNat l[i], msetI b.2 l[i] (mval b.2 l[i] + 1))) := by
          unfold gStep; simp only [h1, decide_false, Bool.false_eq_true, if_false, h2, if_true]
        rw [hg]
        refine ⟨?_, fun b' hb' => by cases hb'⟩
        simp only [h2, if_true, M.req_true hjw, M.bind_pure, M.go_done]
        rfl
      · simp only [h2, Bool.false_eq_true, if_false]
        have hhl : (holdV b.1 l[i]).length ≤ 10 := by have := holdV_len b.1 l[i]; omega
        have hhj : ∀ j ∈ holdV b.1 l[i], 0 ≤ j ∧ j < (fit.length : Int) := fun j hj' => by have := mem_holdV.1 hj'; have := hb.1; omega
        have hpost := giveO_post hrec hod (holdV b.1 l[i]) hhl hhj
        have hg : gStep stock (giveV fit stock f) job l[i] b = match foldP (oStep (giveV fit stock f)) (holdV b.1 l[i]) (b.1, msetI b.2 l[i] (mval b.2 l[i] + 1)) with | .next c => .next c | .done r => .done (true, (r.2.1.set job.toNat l[i], r.2.2)) := by
          unfold gStep giveO
          simp only [h1, decide_false, Bool.false_eq_true, if_false, h2, foldS_P]
          cases hp : foldP (oStep (giveV fit stock f)) (holdV b.1 l[i]) (b.1, msetI b.2 l[i] (mval b.2 l[i] + 1)) with
          | next c => rfl
          | done r =>
            have := oStep_true _ _ _ hp
            simp only [Step.fin, this, if_true]
        refine ⟨?_, fun b' hb' => ?_⟩
        · rw [M.loop_list (holdV b.1 l[i]) (fun k (c : GSt) => (job, l[i], l, (l.length : Int), (i : Int), ((holdV b.1 l[i]).length : Int), (k : Int), holdV b.1 l[i], fit, stock, c.1, c.2, ()))
            (fun j c => Step.mapD (fun r => .done (.done (.done (giveOut fit stock (true, (r.2.1.set job.toNat l[i], r.2.2)))))) (oStep (giveV fit stock f) j c))
            (fun c => .next (job, l, (l.length : Int), (i : Int), fit, stock, c.1, c.2, ())) (fun k c => OI n fit.length (b.1, msetI b.2 l[i] (mval b.2 l[i] + 1)) k c) (b.1, msetI b.2 l[i] (mval b.2 l[i] + 1)) ?_ ?_ ?_ ?_]
          · rw [hg, foldS_P, foldP_mapD]
            cases foldP (oStep (giveV fit stock f)) (holdV b.1 l[i]) (b.1, msetI b.2 l[i] (mval b.2 l[i] + 1)) with
            | next c =>
              simp only [Step.mapD, Step.fin, M.bind_pure, M.go_next, hwi]
              rfl
            | done r =>
              simp only [Step.mapD, Step.fin, M.bind_pure, M.go_done]
              rfl
          · rfl
          · exact OI_zero hod.1
          · intro k hk c hcI
            have hwk := wrap64 (n := (k : Int) + 1) (by omega) (by omega)
            have hjk := hhj _ (List.getElem_mem hk)
            have hgd := OI_GD hod hcI (by omega)
            have hpk := hrec _ c hjk.1 hjk.2 hgd
            have hsuc := OI_succ hcI hpk
            have hpre : GPre f ((holdV b.1 l[i])[k], fit, stock, c.1, c.2, ()) := ⟨n, hc, hjk.1, hjk.2, hgd⟩
            have hjw2 : 0 ≤ job ∧ job < ((giveV fit stock f (holdV b.1 l[i])[k] c).2.1.length : Int) := by rw [hpk.1]; exact hj
            refine ⟨?_, fun b' hb' => ?_⟩
            · simp only [lt_len hk, if_true, getD_nat hk, in_len hk, M.req_True]
              show M.bind (shGive f ((holdV b.1 l[i])[k], fit, stock, c.1, c.2, ())) _ = _
              unfold shGive
              simp only [M.bind_det, M.req_true hpre, giveOut]
              unfold oStep
              by_cases hr : (giveV fit stock f (holdV b.1 l[i])[k] c).1 = true
              · simp only [hr, if_true, M.req_true hjw2, M.bind_pure]
                rfl
              · simp only [hr, Bool.false_eq_true, if_false, add_def, hwk]
                rfl
            · unfold oStep at hb'
              split at hb'
              · cases hb'
              · cases hb'
                exact hsuc
          · intro c hcI
            simp
        · have hp := hoi _ hpost
          rw [hg] at hb'
          unfold giveO at hp
          rw [foldS_P] at hp
          revert hb' hp
          cases foldP (oStep (giveV fit stock f)) (holdV b.1 l[i]) (b.1, msetI b.2 l[i] (mval b.2 l[i] + 1)) with
          | next c => intro hb' hp; cases hb'; exact hp
          | done r => intro hb'; cases hb'
  · intro b hb
    simp
theorem sGive (f : Nat) (x : GIn) : M.le (S_parts_task_give shHoldersIO (shGive f) x) (shGive (f + 1) x) := M.le_det fun h => by
  obtain ⟨job, fit, stock, work, asked, u⟩ := x
  obtain ⟨n, hc, h1, h2, h3⟩ := h
  exact eGive hc ⟨h1, h2⟩ h3
theorem shGive_zero (x : GIn) : ¬ (shGive 0 x).safe := fun ⟨n, hc, h1, h2, h3⟩ => absurd h3.2.2 (by omega)
end Go.Fer
namespace Go.Fer
open M (Step)
set_option linter.unusedVariables false
set_option linter.unusedSimpArgs false
abbrev fcBegin1 : FC := ⟨tI, tB, fun _ => True, fun x => decide (0 ≤ x) && decide (x ≤ 10)⟩
theorem sBegin1 (x) : M.le (S_parts_begin_c1 fcWithin.sh x) (fcBegin1.sh x) := M.le_det fun _ => by
  unfold S_parts_begin_c1
  simp only [FC.sh, M.bind_det, M.req_True]
abbrev fcBegin2 : FC := ⟨.prod (.prod tI tI) (.ptr tW), tB, fun x => ∃ w, x.2 = some w ∧ smallW w, fun x => isSlotOfV (x.2.getD ([], [], 0, [])) x.1.1 x.1.2⟩
theorem sBegin2 (x) : M.le (S_parts_begin_c2 fcIsSlotOf.sh x) (fcBegin2.sh x) := M.le_det fun h => by
  obtain ⟨n, o⟩ := x
  obtain ⟨w, hf, h1⟩ := h
  change o = some w at hf
  subst hf
  unfold S_parts_begin_c2
  simp only [FC.sh, M.bind_det, Option.getD_some]
  rw [M.req_true (by exact h1)]
abbrev tJob : Ty := .prod tI tI
abbrev tJobs : Ty := .slice tJob
def fitJ (w : Wsh) (j : Int × Int) : List Int := ((List.range w.1.length).filter fun (i : Nat) => decide (fitsV w (i : Int) j.1 j.2 = 1)).map fun (i : Nat) => (i : Int)
def taskFit (w : Wsh) (jobs : List (Int × Int)) : List (List Int) := jobs.map (fitJ w)
def workV (w : Wsh) (stock : List Int) (jobs : List (Int × Int)) : List Int :=
  (List.range jobs.length).foldl (fun work (j : Nat) => (giveV (taskFit w jobs) stock 11 (j : Int) (work, [])).2.1) (List.replicate jobs.length (-1))
def isTaskV (w : Wsh) (stock : List Int) (jobs : List (Int × Int)) : Bool :=
  decide (stock.length = w.1.length) && stock.all (fun n => decide (0 ≤ n) && decide (n ≤ 10)) && decide (jobs.length ≤ 10) && jobs.all fun j => isSlotOfV w j.1 j.2
abbrev Tsk := List (List Int) × List Int × List Int
def beginV (w : Wsh) (stock : List Int) (jobs : List (Int × Int)) : Option Tsk × Int :=
  if knownV w (isTaskV w stock jobs) ≠ 0 then (none, knownV w (isTaskV w stock jobs)) else (some (taskFit w jobs, stock, workV w stock jobs), 0)
theorem nodup_map_int (p : Nat → Bool) (n : Nat) : (((List.range n).filter p).map fun (i : Nat) => (i : Int)).Nodup := by
  exact List.Pairwise.map _ (fun a b (h : a ≠ b) => by omega) (List.nodup_range.filter p)
theorem isTaskV_iff {w : Wsh} {stock : List Int} {jobs : List (Int × Int)} : isTaskV w stock jobs = true ↔ stock.length = w.1.length ∧ (∀ n ∈ stock, 0 ≤ n ∧ n ≤ 10) ∧ jobs.length ≤ 10 ∧ ∀ j ∈ jobs, isSlotOfV w j.1 j.2 = true := by
  simp only [isTaskV, Bool.and_eq_true, decide_eq_true_eq, List.all_eq_true, and_assoc]
theorem task_GC {w : Wsh} (hw : goodW w) {stock : List Int} {jobs : List (Int × Int)} (h : isTaskV w stock jobs = true) : GC w.1.length (taskFit w jobs) stock := by
  have hhd := wV_head hw.2
  have ht := isTaskV_iff.1 h
  refine ⟨hhd.1, by simp [taskFit]; exact ht.2.2.1, ht.1, fun l hl => ?_⟩
  obtain ⟨j, _, rfl⟩ := List.mem_map.1 hl
  refine ⟨nodup_map_int _ _, fun s hs => ?_⟩
  simp only [fitJ, List.mem_map, List.mem_filter, List.mem_range] at hs
  obtain ⟨i, ⟨hi, _⟩, rfl⟩ := hs
  omega
theorem GD_nil {n J : Nat} {work : List Int} (hn : n ≤ 10) (h : work.length = J) : GD n J 11 (work, []) := by
  have hu : unas n [] ≤ n := by
    unfold unas
    exact Nat.le_trans List.countP_le_length (by simp)
  have hm : ∀ k, mval [] k = 0 := fun k => rfl
  refine ⟨h, fun k => ?_, by show unas n [] < 11; omega⟩
  show 0 ≤ mval [] k ∧ mval [] k + 10 * (unas n [] : Int) + (11 : Nat) ≤ 1000
  rw [hm]
  omega
theorem eBegin (w : Wsh) (stock : List Int) (jobs : List (Int × Int)) (h : smallW w) (hs : stock.length < 2 ^ 63) (hj : jobs.length < 2 ^ 63) :
    S_parts_begin fcOpen.sh fcShopFits.sh (fcAllF tI).sh (fcAllF tJob).sh shRepeat (shGive 11) fcBegin2.sh fcBegin1.sh (w, stock, jobs) = M.pure (beginV w stock jobs) := by
  unfold S_parts_begin
  have hcl1 : ∀ y ∈ stock, ∃ b, fcBegin1.sh y = M.pure b := fun y _ => ⟨_, M.det_true trivial _⟩
  have hcl2 : ∀ y ∈ jobs, fcBegin2.sh (y, some w) = M.pure (isSlotOfV w y.1 y.2) := fun y _ => M.det_true ⟨w, rfl, h⟩ _
  have hp1 : (fcAllF tI).pre (stock, fcBegin1.sh) := ⟨hs, hcl1⟩
  have hp2 : (fcAllF tJob).pre (jobs, fun x_1 => fcBegin2.sh (x_1, some w)) := ⟨hj, fun y hy => ⟨_, hcl2 y hy⟩⟩
  have e1 : (fcAllF tI).g (stock, fcBegin1.sh) = stock.all (fun n => decide (0 ≤ n) && decide (n ≤ 10)) := all_congr' fun y _ => M.val_det
  have e2 : (fcAllF tJob).g (jobs, fun x_1 => fcBegin2.sh (x_1, some w)) = jobs.all fun j => isSlotOfV w j.1 j.2 := all_congr' fun y hy => by show (fcBegin2.sh (y, some w)).val false = _; rw [hcl2 y hy]; exact M.val_pure
  show M.bind (gdo _ (M.det ((fcAllF tI).pre (stock, fcBegin1.sh)) ((fcAllF tI).g (stock, fcBegin1.sh))) _) _ = _
  rw [M.det_true hp1, e1]
  simp only [M.gdo_pure, M.bind_pure]
  show M.bind (gdo _ (M.det ((fcAllF tJob).pre (jobs, fun x_1 => fcBegin2.sh (x_1, some w))) ((fcAllF tJob).g (jobs, fun x_1 => fcBegin2.sh (x_1, some w)))) _) _ = _
  rw [M.det_true hp2, e2]
  simp only [M.gdo_pure, M.bind_pure, and_gdo]
  have hb : (decide (Int.ofNat stock.length = Int.ofNat w.1.length) && stock.all (fun n => decide (0 ≤ n) && decide (n ≤ 10)) && decide (Int.ofNat jobs.length ≤ 10) && jobs.all fun j => isSlotOfV w j.1 j.2) = isTaskV w stock jobs := by
    unfold isTaskV
    have a1 : decide (Int.ofNat stock.length = Int.ofNat w.1.length) = decide (stock.length = w.1.length) := by rw [decide_eq_decide]; simp only [ofNat_def]; omega
    have a2 : decide (Int.ofNat jobs.length ≤ 10) = decide (jobs.length ≤ 10) := by rw [decide_eq_decide]; simp only [ofNat_def]; omega
    rw [a1, a2]
  rw [hb]
  have hpo : fcOpen.pre (w, isTaskV w stock jobs) := h
  simp only [FC.sh, M.bind_det]
  rw [M.req_true (by exact h)]
  unfold beginV
  by_cases hk : knownV w (isTaskV w stock jobs) = 0
  · have hw := good_of_known h hk
    have hhd := wV_head hw.2
    have hit := (knownV_0 hk).2.1
    have ht := isTaskV_iff.1 hit
    have hgc := task_GC hw hit
    simp only [openV_0 hk, hk, ne_eq, not_true, decide_false, Bool.false_eq_true, if_false]
    have hrp : ([-1] : List Int) = [-1] ∧ 0 ≤ (jobs.length : Int) ∧ (jobs.length : Int) ≤ 10 := ⟨rfl, by omega, by omega⟩
    unfold shRepeat
    simp only [ofNat_def, M.bind_det]
    rw [M.req_true (by exact ⟨trivial, hrp.2⟩)]
    simp only [Int.toNat_natCast]
    rw [M.loop_list jobs (fun i (fit : List (List Int)) => (jobs, some (w, lensAll w), jobs, (jobs.length : Int), (i : Int), w, stock, fit, List.replicate jobs.length (-1), ())) (fun j fit => .next (fit ++ [fitJ w j])) (fun fit => .next (jobs, stock, fit, List.replicate jobs.length (-1), ())) (fun i fit => fit.length ≤ i) [] ?_ ?_ ?_ ?_]
    · rw [foldS_next, foldl_map_app]
      simp only [M.bind_pure, M.go_next, List.nil_append]
      show M.bind (M.loop _ ((jobs.length : Int), 0, taskFit w jobs, stock, List.replicate jobs.length (-1), ())) _ = _
      have htl : (taskFit w jobs).length = jobs.length := by simp [taskFit]
      rw [M.loop_list (List.range jobs.length) (fun i (work : List Int) => ((jobs.length : Int), (i : Int), taskFit w jobs, stock, work, ())) (fun (j : Nat) work => .next (giveV (taskFit w jobs) stock 11 (j : Int) (work, [])).2.1) (fun work => .next (taskFit w jobs, stock, work, ())) (fun i work => work.length = jobs.length) (List.replicate jobs.length (-1)) ?_ ?_ ?_ ?_]
      · rw [foldS_next]
        simp only [M.bind_pure, M.go_next]
        rfl
      · rfl
      · simp
      · intro j hj work hwk
        have hj : j < jobs.length := by simpa using hj
        have hwj := wrap64 (n := (j : Int) + 1) (by omega) (by omega)
        have hgd : GD w.1.length (taskFit w jobs).length 11 (work, []) := GD_nil hhd.1 (by rw [htl]; exact hwk)
        have hpre : GPre 11 ((j : Int), taskFit w jobs, stock, work, [], ()) := ⟨w.1.length, hgc, by show (0 : Int) ≤ (j : Int); omega, by show (j : Int) < ((taskFit w jobs).length : Int); rw [htl]; omega, hgd⟩
        have hpost := giveV_post hgc 11 (j : Int) (work, []) (by omega) (by rw [htl]; omega) hgd
        refine ⟨?_, fun b' hb' => ?_⟩
        · unfold shGive
          simp only [lt_len hj, if_true, List.getElem_range, M.bind_det]
          rw [M.req_true (by exact hpre)]
          simp only [giveOut, add_def, hwj]
          rfl
        · cases hb'
          rw [List.getElem_range, hpost.1, htl]
      · intro work hwk
        simp
    · rfl
    · simp
    · intro i hi fit hfit
      have hwi := wrap64 (n := (i : Int) + 1) (by omega) (by omega)
      have hsl := ht.2.2.2 jobs[i] (List.getElem_mem hi)
      have hll2 : lenLe (fit.length + (0 + 1)) := by unfold lenLe; omega
      refine ⟨?_, fun b' hb' => ?_⟩
      · simp only [lt_len hi, if_true, getD_nat hi, in_len hi, M.req_True]
        rw [M.loop_list (List.range w.1.length) (fun s (l : List Int) => (jobs, some (w, lensAll w), jobs, (jobs.length : Int), (i : Int), (w.1.length : Int), (s : Int), w, jobs[i], l, stock, fit, List.replicate jobs.length (-1), ())) (fun (s : Nat) l => .next (if decide (fitsV w (s : Int) jobs[i].1 jobs[i].2 = 1) = true then l ++ [(s : Int)] else l)) (fun l => .next (jobs, some (w, lensAll w), jobs, (jobs.length : Int), (i : Int), w, l, stock, fit, List.replicate jobs.length (-1), ())) (fun s l => l.length ≤ s) [] ?_ ?_ ?_ ?_]
        · rw [foldS_next, foldl_filter_map]
          simp only [M.bind_pure, M.go_next, List.nil_append, add_defN, M.req_true hll2, add_def, hwi]
          rfl
        · rfl
        · simp
        · intro s hs l hl
          have hs : s < w.1.length := by simpa using hs
          have hwsp := wrap64 (n := (s : Int) + 1) (by omega) (by omega)
          have hll : lenLe (l.length + (0 + 1)) := by unfold lenLe; omega
          have hisp : isSpareV w (s : Int) = true := isSpareV_iff.2 ⟨by omega, by omega⟩
          have hpf : ∃ w', isShop (some (w, lensAll w)) w' ∧ isSpareV w' (s : Int) = true ∧ isSlotOfV w' jobs[i].1 jobs[i].2 = true := ⟨w, ⟨rfl, hw⟩, hisp, hsl⟩
          refine ⟨?_, fun b' hb' => ?_⟩
          · simp only [lt_len hs, if_true, List.getElem_range, M.req_true hpf, Option.getD_some]
            by_cases hc : decide (fitsV w (s : Int) jobs[i].1 jobs[i].2 = 1) = true
            · simp only [hc, if_true, M.req_true hll, M.bind_pure, M.go_next, hwsp, add_defN, add_def]; rfl
            · simp only [hc, Bool.false_eq_true, if_false, M.bind_pure, M.go_next, hwsp, add_def]; rfl
          · cases hb'
            split <;> (try simp only [List.length_append, List.length_singleton]) <;> omega
        · intro l hl
          simp
      · cases hb'
        simp only [List.length_append, List.length_singleton]
        omega
    · intro fit hfit
      simp
  · simp [openV_1 hk, hk]
abbrev taskP (x : Wsh × List Int × List (Int × Int)) : Prop := smallW x.1 ∧ x.2.1.length < 2 ^ 63 ∧ x.2.2.length < 2 ^ 63
abbrev tTaskIn : Ty := .prod tW (.prod tInts tJobs)
abbrev fcBegin : FC := ⟨tTaskIn, .prod tTaskP tI, taskP, fun x => beginV x.1 x.2.1 x.2.2⟩
theorem sBegin (x) : M.le (S_parts_begin fcOpen.sh fcShopFits.sh (fcAllF tI).sh (fcAllF tJob).sh shRepeat (shGive 11) fcBegin2.sh fcBegin1.sh x) (fcBegin.sh x) := M.le_det fun h => eBegin x.1 x.2.1 x.2.2 h.1 h.2.1 h.2.2
theorem workV_len (w : Wsh) (hw : goodW w) {stock : List Int} {jobs : List (Int × Int)} (h : isTaskV w stock jobs = true) : (workV w stock jobs).length = jobs.length := by
  have hhd := wV_head hw.2
  have hgc := task_GC hw h
  have htl : (taskFit w jobs).length = jobs.length := by simp [taskFit]
  unfold workV
  have key : ∀ (l : List Nat) (work : List Int), (∀ j ∈ l, j < jobs.length) → work.length = jobs.length → (l.foldl (fun work (j : Nat) => (giveV (taskFit w jobs) stock 11 (j : Int) (work, [])).2.1) work).length = jobs.length := by
    intro l
    induction l with
    | nil => intro work _ h; exact h
    | cons j l ih =>
      intro work hl hwk
      have hj := hl j (by simp)
      have hgd : GD w.1.length (taskFit w jobs).length 11 (work, []) := GD_nil hhd.1 (by rw [htl]; exact hwk)
      have hpost := giveV_post hgc 11 (j : Int) (work, []) (by omega) (by rw [htl]; omega) hgd
      exact ih _ (fun y hy => hl y (List.mem_cons_of_mem _ hy)) (by rw [hpost.1, htl])
  exact key _ _ (fun j hj => by simpa using hj) (by simp)
theorem begin_0 {w : Wsh} {stock : List Int} {jobs : List (Int × Int)} (h : knownV w (isTaskV w stock jobs) = 0) : beginV w stock jobs = (some (taskFit w jobs, stock, workV w stock jobs), 0) := by simp [beginV, h]
theorem begin_1 {w : Wsh} {stock : List Int} {jobs : List (Int × Int)} (h : knownV w (isTaskV w stock jobs) ≠ 0) : beginV w stock jobs = (none, knownV w (isTaskV w stock jobs)) := by simp [beginV, h]
def mostP (w : Wsh) (stock : List Int) (jobs : List (Int × Int)) : Int × Int :=
  if knownV w (isTaskV w stock jobs) ≠ 0 then (0, knownV w (isTaskV w stock jobs)) else ((jobs.length : Int) - ((holdV (workV w stock jobs) (-1)).length : Int), 0)
abbrev fcPMost : FC := ⟨tTaskIn, .prod tI tI, taskP, fun x => mostP x.1 x.2.1 x.2.2⟩
theorem sPMost (x) : M.le (S_parts_Most fcBegin.sh fcHolders.sh x) (fcPMost.sh x) := M.le_det fun h => by
  obtain ⟨w, stock, jobs⟩ := x
  have hp := h
  unfold S_parts_Most
  simp only [FC.sh, M.bind_det, M.req_true hp]
  unfold mostP
  by_cases hk : knownV w (isTaskV w stock jobs) = 0
  · have hw := good_of_known h.1 hk
    have hit := (knownV_0 hk).2.1
    have ht := isTaskV_iff.1 hit
    have hwl := workV_len w hw hit
    have hhl := holdV_len (workV w stock jobs) (-1)
    simp only [begin_0 hk, hk, ne_eq, not_true, decide_false, Bool.false_eq_true, if_false, Option.getD_some, ofNat_def]
    rw [M.req_true (by exact ⟨_, rfl, by show (workV w stock jobs).length ≤ 10; omega⟩)]
    have hww := wrap64 (n := (jobs.length : Int) - ((holdV (workV w stock jobs) (-1)).length : Int)) (by omega) (by omega)
    rw [hww]
  · simp [begin_1 hk, hk]
def workP (w : Wsh) (stock : List Int) (jobs : List (Int × Int)) : List Int × Int :=
  if knownV w (isTaskV w stock jobs) ≠ 0 then ([], knownV w (isTaskV w stock jobs)) else (workV w stock jobs, 0)
abbrev fcPWork : FC := ⟨tTaskIn, .prod tInts tI, taskP, fun x => workP x.1 x.2.1 x.2.2⟩
theorem sPWork (x) : M.le (S_parts_Work fcBegin.sh x) (fcPWork.sh x) := M.le_det fun h => by
  obtain ⟨w, stock, jobs⟩ := x
  have hp := h
  unfold S_parts_Work
  simp only [FC.sh, M.bind_det, M.req_true hp]
  unfold workP
  by_cases hk : knownV w (isTaskV w stock jobs) = 0
  · simp [begin_0 hk, hk]
  · simp [begin_1 hk, hk]
end Go.Fer
namespace Go.Fer
open M (Step)
set_option linter.unusedVariables false
set_option linter.unusedSimpArgs false
theorem getD_ext {a b : List Int} (h : a.length = b.length) : ((List.range a.length).all fun i => decide (a.getD i 0 = b.getD i 0)) = decide (a = b) := by
  rw [Bool.eq_iff_iff]
  simp only [List.all_eq_true, List.mem_range, decide_eq_true_eq]
  constructor
  · intro hh
    refine List.ext_getElem h fun i h1 h2 => ?_
    have := hh i h1
    rwa [List.getD_eq_getElem?_getD, List.getD_eq_getElem?_getD, List.getElem?_eq_getElem h1, List.getElem?_eq_getElem h2] at this
  · rintro rfl i _
    rfl
abbrev fcSameInts : FC := ⟨.prod tInts tInts, tB, fun x => x.1.length < 2 ^ 63 ∧ x.2.length < 2 ^ 63, fun x => decide (x.1 = x.2)⟩
theorem eSameInts (a b : List Int) (h1 : a.length < 2 ^ 63) : S_law07_sameInts (a, b) = M.pure (decide (a = b)) := by
  unfold S_law07_sameInts
  by_cases hl : a.length = b.length
  · have e : decide (Int.ofNat a.length ≠ Int.ofNat b.length) = false := by simp [hl]
    simp only [e, Bool.false_eq_true, if_false]
    rw [M.loop_listT (List.range a.length) (fun i (_ : Unit) => (a, b, (i : Int), ())) (fun (i : Nat) u => if decide (a.getD i 0 ≠ b.getD i 0) = true then .done (.done false) else .next u) (fun _ => .next ()) () ?_ ?_ ?_]
    · rw [foldS_anyN (q := fun (i : Nat) => decide (a.getD i 0 = b.getD i 0)) _ _ (fun i => by simp), getD_ext hl]
      by_cases h : a = b
      · simp only [h, decide_true, if_true, M.bind_pure, M.go_next]
      · simp only [h, decide_false, Bool.false_eq_true, if_false, M.bind_pure, M.go_done]
    · rfl
    · intro i hi u
      have hi : i < a.length := by simpa using hi
      have hi2 : i < b.length := by omega
      have hwi := wrap64 (n := (i : Int) + 1) (by omega) (by omega)
      simp only [ofNat_def, lt_len hi, if_true, in_len hi, in_len hi2, M.req_True, List.getElem_range, Int.toNat_natCast, M.bind_pure, add_def, hwi]
      exact fin_step (mk := fun _ : Unit => (a, b, (i : Int) + 1, ()))
    · intro u
      simp
  · have e : decide (Int.ofNat a.length ≠ Int.ofNat b.length) = true := by simp; omega
    have hn : ¬ a = b := fun e => hl (e ▸ rfl)
    simp only [e, if_true, hn, decide_false]
theorem sSameInts (x) : M.le (S_law07_sameInts x) (fcSameInts.sh x) := M.le_det fun h => eSameInts x.1 x.2 h.1
def copyW (w : Wsh) : Prop := w.1.length ≤ 1000 ∧ w.2.1.length ≤ 1000 ∧ w.2.2.2.length ≤ 1000 ∧ ∀ m ∈ w.2.1, m.length ≤ 1000 ∧ ∀ s ∈ m, s.2.1.length ≤ 1000
theorem copyW.small {w : Wsh} (h : copyW w) : smallW w := ⟨by have := h.1; omega, by have := h.2.1; omega, by have := h.2.2.1; omega, fun m hm => ⟨by have := (h.2.2.2 m hm).1; omega, fun s hs => by have := (h.2.2.2 m hm).2 s hs; omega⟩⟩
abbrev fcCopy : FC := ⟨tW, tW, copyW, fun w => w⟩
theorem eCopy (w : Wsh) (h : copyW w) : S_ref07_Copy w = M.pure w := by
  obtain ⟨h1, h2, h3, h4⟩ := h
  unfold S_ref07_Copy
  have r1 : lenLe (0 + w.1.length) := by unfold lenLe; omega
  have r2 : lenLe (0 + w.2.2.2.length) := by unfold lenLe; omega
  simp only [add_defN, M.req_true r1, M.req_true r2, List.nil_append]
  rw [M.loop_list w.2.1 (fun i (out : List (List (Int × List Int × Int × Int))) => ((i : Int), w, 0, w.2.2.1, w.1, w.2.2.2, out, ())) (fun m out => .next (out ++ [m])) (fun out => .next (0, w.2.2.1, w.1, w.2.2.2, out, ())) (fun i out => out.length ≤ i) [] ?_ ?_ ?_ ?_]
  · rw [foldS_next, foldl_map_app (g := fun m => m)]
    simp only [M.bind_pure, M.go_next, List.nil_append, List.map_id_fun', id_eq]
  · rfl
  · simp
  · intro i hi out hout
    have hm := h4 w.2.1[i] (List.getElem_mem hi)
    have hwi := wrap64 (n := (i : Int) + 1) (by omega) (by omega)
    have r3 : lenLe (0 + w.2.1[i].length) := by have := hm.1; unfold lenLe; omega
    have r4 : lenLe (out.length + (0 + 1)) := by unfold lenLe; omega
    refine ⟨?_, fun b' hb' => ?_⟩
    · simp only [ofNat_def, lt_len hi, if_true, in_len hi, M.req_True, getD_nat hi, M.req_true r3]
      rw [M.loop_listT w.2.1[i] (fun k (_ : Unit) => ((i : Int), (k : Int), w, 0, w.2.2.1, w.1, w.2.2.2, w.2.1[i], out, ())) (fun s u => .next u) (fun _ => .next ((i : Int), w, 0, w.2.2.1, w.1, w.2.2.2, w.2.1[i], out, ())) () ?_ ?_ ?_]
      · rw [foldS_next]
        simp only [M.bind_pure, M.go_next, M.req_true r4, add_def, hwi]
        rfl
      · rfl
      · intro k hk u
        have hs := hm.2 _ (List.getElem_mem hk)
        have hkl := hm.1
        have hwk := wrap64 (n := (k : Int) + 1) (by omega) (by omega)
        have r5 : lenLe (0 + (w.2.1[i])[k].2.1.length) := by unfold lenLe; omega
        have hset : (w.2.1[i]).set k ((w.2.1[i])[k].1, (w.2.1[i])[k].2.1, (w.2.1[i])[k].2.2) = w.2.1[i] := List.set_getElem_self hk
        simp only [lt_len hk, if_true, in_len hk, M.req_True, getD_nat hk, M.req_true r5, add_def, hwk]
        rw [Int.toNat_natCast, hset]
        rfl
      · intro u
        simp
    · cases hb'
      simp only [List.length_append, List.length_singleton]
      omega
  · intro out hout
    simp
theorem sCopy (x) : M.le (S_ref07_Copy x) (fcCopy.sh x) := M.le_det fun h => eCopy x h
noncomputable def shCopyIO (x : Wsh × Unit) : M (Int × List (Int × Int × Int × Int) × List (Int × Int × Int × Int) × List (List (Int × List Int × Int × Int)) × Unit) :=
  M.det (copyW x.1) (x.1.2.2.1, x.1.1, x.1.2.2.2, x.1.2.1, ())
theorem sCopyIO (x) : M.le (S_ref07_CopyIO x) (shCopyIO x) := M.le_det fun h => by
  obtain ⟨w, u⟩ := x
  obtain ⟨h1, h2, h3, h4⟩ := h
  change w.1.length ≤ 1000 at h1
  change w.2.1.length ≤ 1000 at h2
  change w.2.2.2.length ≤ 1000 at h3
  change ∀ m ∈ w.2.1, m.length ≤ 1000 ∧ ∀ s ∈ m, s.2.1.length ≤ 1000 at h4
  unfold S_ref07_CopyIO
  have r1 : lenLe (0 + w.1.length) := by unfold lenLe; omega
  have r2 : lenLe (0 + w.2.2.2.length) := by unfold lenLe; omega
  simp only [add_defN, M.req_true r1, M.req_true r2, List.nil_append]
  rw [M.loop_list w.2.1 (fun i (out : List (List (Int × List Int × Int × Int))) => ((i : Int), w, 0, w.2.2.1, w.1, w.2.2.2, out, ())) (fun m out => .next (out ++ [m])) (fun out => .next (0, w.2.2.1, w.1, w.2.2.2, out, ())) (fun i out => out.length ≤ i) [] ?_ ?_ ?_ ?_]
  · rw [foldS_next, foldl_map_app (g := fun m => m)]
    simp only [M.bind_pure, M.go_next, List.nil_append, List.map_id_fun', id_eq]
  · rfl
  · simp
  · intro i hi out hout
    have hm := h4 w.2.1[i] (List.getElem_mem hi)
    have hwi := wrap64 (n := (i : Int) + 1) (by omega) (by omega)
    have r3 : lenLe (0 + w.2.1[i].length) := by have := hm.1; unfold lenLe; omega
    have r4 : lenLe (out.length + (0 + 1)) := by unfold lenLe; omega
    refine ⟨?_, fun b' hb' => ?_⟩
    · simp only [ofNat_def, lt_len hi, if_true, in_len hi, M.req_True, getD_nat hi, M.req_true r3]
      rw [M.loop_listT w.2.1[i] (fun k (_ : Unit) => ((i : Int), (k : Int), w, 0, w.2.2.1, w.1, w.2.2.2, w.2.1[i], out, ())) (fun s u => .next u) (fun _ => .next ((i : Int), w, 0, w.2.2.1, w.1, w.2.2.2, w.2.1[i], out, ())) () ?_ ?_ ?_]
      · rw [foldS_next]
        simp only [M.bind_pure, M.go_next, M.req_true r4, add_def, hwi]
        rfl
      · rfl
      · intro k hk u
        have hs := hm.2 _ (List.getElem_mem hk)
        have hkl := hm.1
        have hwk := wrap64 (n := (k : Int) + 1) (by omega) (by omega)
        have r5 : lenLe (0 + (w.2.1[i])[k].2.1.length) := by unfold lenLe; omega
        have hset : (w.2.1[i]).set k ((w.2.1[i])[k].1, (w.2.1[i])[k].2.1, (w.2.1[i])[k].2.2) = w.2.1[i] := List.set_getElem_self hk
        simp only [lt_len hk, if_true, in_len hk, M.req_True, getD_nat hk, M.req_true r5, add_def, hwk]
        rw [Int.toNat_natCast, hset]
        rfl
      · intro u
        simp
    · cases hb'
      simp only [List.length_append, List.length_singleton]
      omega
  · intro out hout
    simp
abbrev fcSame : FC := ⟨.prod tW tW, tB, fun x => x.1 = x.2 ∧ copyW x.1, fun x => true⟩
theorem eSame (w : Wsh) (h : copyW w) : S_law07_same fcSameInts.sh (w, w) = M.pure true := by
  obtain ⟨h1, h2, h3, h4⟩ := h
  unfold S_law07_same
  simp only [ne_eq, not_true, decide_false, Bool.or_self, Bool.false_eq_true, if_false, decide_true, Bool.and_self, Bool.not_true, M.bind_pure]
  rw [M.loop_listT w.1 (fun i (_ : Unit) => ((i : Int), w, w, ())) (fun _ u => .next u) (fun _ => .next (w, w, ())) () ?_ ?_ ?_]
  · rw [foldS_next]
    simp only [M.bind_pure, M.go_next]
    rw [M.loop_listT w.2.2.2 (fun i (_ : Unit) => ((i : Int), w, w, ())) (fun _ u => .next u) (fun _ => .next (w, w, ())) () ?_ ?_ ?_]
    · rw [foldS_next]
      simp only [M.bind_pure, M.go_next]
      rw [M.loop_listT w.2.1 (fun i (_ : Unit) => ((i : Int), w, w, ())) (fun _ u => .next u) (fun _ => .next ()) () ?_ ?_ ?_]
      · rw [foldS_next]
        simp only [M.bind_pure, M.go_next]
      · rfl
      · intro i hi u
        have hm := h4 w.2.1[i] (List.getElem_mem hi)
        have hwi := wrap64 (n := (i : Int) + 1) (by omega) (by omega)
        simp only [ofNat_def, lt_len hi, if_true, in_len hi, M.req_True, getD_nat hi, not_true, decide_false, Bool.false_eq_true, if_false]
        rw [M.loop_listT w.2.1[i] (fun k (_ : Unit) => ((i : Int), (k : Int), w, w, ())) (fun _ u => .next u) (fun _ => .next ((i : Int), w, w, ())) () ?_ ?_ ?_]
        · rw [foldS_next]
          simp only [M.bind_pure, M.go_next, add_def, hwi]
          rfl
        · rfl
        · intro k hk u
          have hs := hm.2 _ (List.getElem_mem hk)
          have hkl := hm.1
          have hwk := wrap64 (n := (k : Int) + 1) (by omega) (by omega)
          have hsl : (w.2.1[i])[k].2.1.length < 2 ^ 63 := by omega
          simp only [in_len hi, M.req_True, getD_nat hi, lt_len hk, if_true, in_len hk, getD_nat hk, not_true, decide_false, decide_true, Bool.and_self, Bool.not_true, Bool.or_self, Bool.not_false, FC.sh, M.gdo_det, M.bind_det, hsl, and_self, true_implies, Bool.false_eq_true, if_false, add_def, hwk]
          rfl
        · intro u
          simp only [in_len hi, M.req_True, ofNat_def, getD_nat hi, Int.lt_irrefl, decide_false, Bool.false_eq_true, if_false]
      · intro u
        simp
    · rfl
    · intro i hi u
      have hwi := wrap64 (n := (i : Int) + 1) (by omega) (by omega)
      simp only [ofNat_def, lt_len hi, if_true, in_len hi, M.req_True, add_def, hwi]
      rfl
    · intro u
      simp
  · rfl
  · intro i hi u
    have hwi := wrap64 (n := (i : Int) + 1) (by omega) (by omega)
    simp only [ofNat_def, lt_len hi, if_true, in_len hi, M.req_True, add_def, hwi]
    rfl
  · intro u
    simp
theorem sSame (x) : M.le (S_law07_same fcSameInts.sh x) (fcSame.sh x) := M.le_det fun h => by
  obtain ⟨w, v⟩ := x
  obtain ⟨h1, h2⟩ := h
  change w = v at h1
  subst h1
  exact eSame w h2
end Go.Fer
namespace Go.Fer
open M (Step)
set_option linter.unusedVariables false
set_option linter.unusedSimpArgs false
def farM (m : List (Int × List Int × Int × Int)) : Bool := decide ((m.length : Int) > 20) || m.any fun s => decide ((s.2.1.length : Int) > 20)
def farV (w : Wsh) : Bool :=
  if (decide ((w.1.length : Int) > 40) || decide ((w.2.1.length : Int) > 40) || decide ((w.2.2.2.length : Int) > 60)) = true then true
  else if w.2.1.any farM = true then true
  else if checkV w ≠ 0 then false
  else if (w.1.any fun s => decide (IntKind.i64.wrap (s.2.2.2 - s.2.2.1) ≥ 50)) = true then true
  else decide ((w.1.length : Int) > 6) || decide ((w.2.1.length : Int) > 4) || decide ((w.2.2.2.length : Int) > 10)
theorem far_copy {w : Wsh} (h : farV w = false) : copyW w := by
  unfold farV at h
  split at h
  · cases h
  · rename_i h1
    split at h
    · cases h
    · rename_i h2
      simp only [Bool.or_eq_true, decide_eq_true_eq, not_or] at h1
      refine ⟨by omega, by omega, by omega, fun m hm => ?_⟩
      have hf : farM m = false := by
        rw [Bool.not_eq_true, List.any_eq_false] at h2
        simpa using h2 m hm
      unfold farM at hf
      rw [Bool.or_eq_false_iff] at hf
      have h3 := hf.1
      rw [decide_eq_false_iff_not] at h3
      refine ⟨by omega, fun s hs => ?_⟩
      have h4 := List.any_eq_false.1 hf.2 s hs
      rw [decide_eq_true_eq] at h4
      omega
abbrev fcFar : FC := ⟨tW, tB, smallW, farV⟩
theorem eFar (w : Wsh) (h : smallW w) : S_law07_Far fcCheck.sh w = M.pure (farV w) := by
  unfold S_law07_Far farV
  simp only [ofNat_def]
  by_cases h1 : (decide ((w.1.length : Int) > 40) || decide ((w.2.1.length : Int) > 40) || decide ((w.2.2.2.length : Int) > 60)) = true
  · rw [if_pos h1, if_pos h1]
  · rw [if_neg h1, if_neg h1]
    have hl := h
    obtain ⟨q1, q2, q3, q4⟩ := h
    rw [M.loop_listT w.2.1 (fun i (_ : Unit) => ((i : Int), w, ())) (fun m u => if farM m = true then .done (.done true) else .next u) (fun _ => .next (w, ())) () ?_ ?_ ?_]
    · rw [foldS_any]
      by_cases h2 : w.2.1.any farM = true
      · simp only [h2, if_true, M.bind_pure, M.go_done]
      · simp only [h2, Bool.false_eq_true, if_false, M.bind_pure, M.go_next, FC.sh, M.bind_det, M.req_true hl]
        by_cases h3 : checkV w = 0
        · simp only [h3, ne_eq, not_true, decide_false, Bool.false_eq_true, if_false]
          rw [M.loop_listT w.1 (fun i (_ : Unit) => ((i : Int), w, ())) (fun s u => if decide (IntKind.i64.wrap (s.2.2.2 - s.2.2.1) ≥ 50) = true then .done (.done true) else .next u) (fun _ => .next (w, ())) () ?_ ?_ ?_]
          · rw [foldS_any]
            by_cases h4 : (w.1.any fun s => decide (IntKind.i64.wrap (s.2.2.2 - s.2.2.1) ≥ 50)) = true
            · simp only [h4, if_true, M.bind_pure, M.go_done]
            · simp only [h4, Bool.false_eq_true, if_false, M.bind_pure, M.go_next]
          · rfl
          · intro i hi u
            have hwi := wrap64 (n := (i : Int) + 1) (by omega) (by omega)
            simp only [ofNat_def, lt_len hi, if_true, in_len hi, M.req_True, getD_nat hi, M.bind_pure, add_def, hwi]
            exact fin_step (mk := fun _ : Unit => ((i : Int) + 1, w, ()))
          · intro u
            simp
        · simp only [h3, ne_eq, not_false_iff, decide_true, if_true]
    · rfl
    · intro i hi u
      have hwi := wrap64 (n := (i : Int) + 1) (by omega) (by omega)
      have hm := q4 _ (List.getElem_mem hi)
      simp only [ofNat_def, lt_len hi, if_true, in_len hi, M.req_True, getD_nat hi, M.bind_pure]
      by_cases h5 : decide ((w.2.1[i].length : Int) > 20) = true
      · have hf : farM w.2.1[i] = true := by unfold farM; rw [h5]; rfl
        simp only [h5, if_true, M.bind_pure, M.go_done, hf]
        rfl
      · have hf : farM w.2.1[i] = w.2.1[i].any fun s => decide ((s.2.1.length : Int) > 20) := by unfold farM; rw [Bool.not_eq_true] at h5; rw [h5]; rfl
        rw [if_neg h5]
        rw [M.loop_listT w.2.1[i] (fun k (_ : Unit) => ((i : Int), (k : Int), w, ())) (fun s u => if decide ((s.2.1.length : Int) > 20) = true then .done (.done (.done (.done true))) else .next u) (fun _ => .next ((i : Int), w, ())) () ?_ ?_ ?_]
        · rw [foldS_any, hf]
          by_cases h6 : (w.2.1[i].any fun s => decide ((s.2.1.length : Int) > 20)) = true
          · simp only [h6, if_true, M.bind_pure, M.go_done]; rfl
          · simp only [h6, Bool.false_eq_true, if_false, M.bind_pure, M.go_next, add_def, hwi]; rfl
        · rfl
        · intro k hk u
          have hwk := wrap64 (n := (k : Int) + 1) (by omega) (by omega)
          simp only [in_len hi, M.req_True, getD_nat hi, lt_len hk, if_true, in_len hk, getD_nat hk, M.bind_pure, add_def, hwk]
          exact fin_step (mk := fun _ : Unit => ((i : Int), (k : Int) + 1, w, ()))
        · intro u
          simp only [in_len hi, M.req_True, getD_nat hi, Int.lt_irrefl, decide_false, Bool.false_eq_true, if_false, M.bind_pure]
    · intro u
      simp
theorem sFar (x) : M.le (S_law07_Far fcCheck.sh x) (fcFar.sh x) := M.le_det fun h => eFar x h
def readyV (w : Wsh) : Bool := !farV w && decide (knownV w true = 0)
abbrev fcReady : FC := ⟨tW, tB, smallW, readyV⟩
theorem sReady (x) : M.le (S_law07_ready fcFar.sh fcKnown.sh x) (fcReady.sh x) := M.le_det fun h => by
  have hp := h
  unfold S_law07_ready
  simp only [FC.sh, M.bind_det, M.req_true hp, M.gdo_det]
  rw [M.req_true (by exact fun _ => hp)]
  unfold readyV
  cases farV x <;> simp
theorem ready_of {w : Wsh} (h : readyV w = true) : copyW w ∧ knownV w true = 0 := by
  unfold readyV at h
  simp only [Bool.and_eq_true, Bool.not_eq_true', decide_eq_true_eq] at h
  exact ⟨far_copy h.1, h.2⟩
def exW : Wsh := ([(1, 2, 300, 310), (1, 3, 305, 305), (2, 1, 50, 60), (1, 2, 320, 330)], [[(1, [2, 3], 300, 306), (2, [1], 40, 58)], [(1, [2], 310, 326)]], 5, [(0, 1, 0, 0)])
def exJ : List (Int × Int) := [(0, 0), (0, 0), (0, 1), (1, 0)]
abbrev fcExample : FC := ⟨.unit, tW, fun _ => True, fun _ => exW⟩
theorem sExample (x) : M.le (S_law07_Example x) (fcExample.sh x) := M.le_det fun _ => rfl
abbrev fcJobs : FC := ⟨.unit, tJobs, fun _ => True, fun _ => exJ⟩
theorem sJobs (x) : M.le (S_law07_Jobs x) (fcJobs.sh x) := M.le_det fun _ => rfl
theorem exW_small : smallW exW := by
  refine ⟨by decide, by decide, by decide, ?_⟩
  intro m hm
  simp only [exW, List.mem_cons, List.not_mem_nil, or_false] at hm
  rcases hm with rfl | rfl
  · refine ⟨by decide, fun s hs => ?_⟩
    simp only [List.mem_cons, List.not_mem_nil, or_false] at hs
    rcases hs with rfl | rfl <;> decide
  · refine ⟨by decide, fun s hs => ?_⟩
    simp only [List.mem_cons, List.not_mem_nil, or_false] at hs
    rcases hs with rfl; decide
theorem ex_length : fcLength.g (exW, 0) = ((300, 309), 0) := by decide +kernel
theorem ex_fewest : fewestR exW = (3, 0) := by decide +kernel
theorem ex_needed : neededR exW = ([2, 3], 0) := by decide +kernel
theorem ex_most : mostP exW [1, 0, 1, 1] exJ = (3, 0) := by decide +kernel
abbrev fcWorks : FC := ⟨.unit, tB, fun _ => True, fun _ => true⟩
theorem sWorks (x) : M.le (S_law07_works fcPFewest.sh fcPNeeded.sh fcPMost.sh fcSameInts.sh fcLength.sh fcExample.sh fcJobs.sh x) (fcWorks.sh x) := M.le_det fun _ => by
  have h := exW_small
  have hm : taskP (exW, [1, 0, 1, 1], exJ) := ⟨h, by show 4 < 2 ^ 63; decide, by show 4 < 2 ^ 63; decide⟩
  have hs : ([2, 3] : List Int).length < 2 ^ 63 ∧ ([2, 3] : List Int).length < 2 ^ 63 := ⟨by decide, by decide⟩
  unfold S_law07_works
  simp only [FC.sh, M.bind_det, M.safe_det, M.val_det, M.req_True, M.gdo_det, ex_fewest, ex_needed]
  rw [M.req_true (by exact h), M.req_true (by exact h), M.req_true (by exact hm), M.req_true (by exact h)]
  rw [M.req_true (by exact fun _ => hs)]
  have hl : lengthV exW 0 = ((300, 309), 0) := ex_length
  rw [hl, ex_most]
  rfl
end Go.Fer
namespace Go.Fer
open M (Step)
set_option linter.unusedVariables false
set_option linter.unusedSimpArgs false
theorem works_req {α : Type} {m : M α} : M.req (fcWorks.pre ()) m = m := M.req_true trivial m
theorem lawFits (x : Wsh × Int × Int × Int) (h : smallW x.1) :
    S_law07_PartsFits fcWorks.sh fcCopy.sh fcFar.sh fcCheck.sh fcCheck.sh fcLength.sh fcLength.sh fcFits.sh fcFits.sh fcSame.sh x = M.pure true := by
  obtain ⟨w, i, m, k⟩ := x
  change smallW w at h
  unfold S_law07_PartsFits
  simp only [FC.sh, M.bind_det, M.req_true h, M.req_True]
  cases hf : farV w with
  | true => simp
  | false =>
    have hc := far_copy hf
    simp only [Bool.false_eq_true, if_false]
    rw [M.req_true (by exact hc)]
    simp only [M.safe_det, M.val_det, M.req_true h, ne_eq, not_true, decide_false, Bool.false_eq_true, if_false, M.gdo_det, decide_true, Bool.and_self, if_true, true_implies, M.bind_det, M.req_True]
    rw [M.req_true (by exact ⟨trivial, hc⟩)]
theorem lawMends (x : Wsh × List Int × Int) (h : smallW x.1) (hl : x.2.1.length < 2 ^ 63) :
    S_law07_PartsMends fcWorks.sh fcCopy.sh fcFar.sh fcMends.sh fcMends.sh x = M.pure true := by
  obtain ⟨w, list, m⟩ := x
  change smallW w at h
  change list.length < 2 ^ 63 at hl
  have hp : smallW w ∧ list.length < 2 ^ 63 := ⟨h, hl⟩
  unfold S_law07_PartsMends
  simp only [FC.sh, M.bind_det, M.req_true h, M.req_True]
  by_cases hf : (farV w || decide (Int.ofNat list.length > 20)) = true
  · simp only [hf, if_true]
  · have hf2 : farV w = false ∧ list.length ≤ 20 := by
      simp only [Bool.or_eq_true, decide_eq_true_eq, not_or, Bool.not_eq_true, ofNat_def] at hf
      exact ⟨hf.1, by omega⟩
    have hc := far_copy hf2.1
    have hll : lenLe (0 + list.length) := by unfold lenLe; omega
    rw [if_neg hf]
    rw [M.req_true (by exact hc)]
    simp only [List.nil_append, add_defN, M.req_true hll, M.req_true hp, decide_true, Bool.and_self, M.gdo_det, M.bind_det, if_true, true_implies, M.req_True]
end Go.Fer
namespace Go.Fer.Sk
open Go.Proofs
abbrev t3 : Ty := .int .i64
abbrev t4 : Ty := .bool
abbrev t5 : Ty := .int .u8
abbrev t2 : Ty := .int .i64
abbrev t6 : Ty := .int .u8
abbrev t8 : Ty := .st (.prod t2 (.prod t3 (.prod t4 t6)))
abbrev t9 : Ty := .str
abbrev t10 : Ty := .str
abbrev t11 : Ty := .str
abbrev t28 : Ty := .st (.prod t3 t3)
abbrev t30 : Ty := .st (.prod t3 (.prod t3 t28))
abbrev t22 : Ty := .slice t30
abbrev t36 : Ty := .slice t3
abbrev t95 : Ty := .st (.prod t3 (.prod t36 t28))
abbrev t72 : Ty := .slice t95
abbrev t74 : Ty := .st t72
abbrev t23 : Ty := .slice t74
abbrev t54 : Ty := .st (.prod t3 (.prod t3 (.prod t3 t3)))
abbrev t24 : Ty := .slice t54
abbrev t26 : Ty := .st (.prod t22 (.prod t23 (.prod t3 t24)))
abbrev t33 : Ty := .int .i64
abbrev t46 : Ty := .st (.prod t3 t3)
abbrev t42 : Ty := .slice t46
abbrev t44 : Ty := .st (.prod t36 t42)
abbrev t48 : Ty := .st (.prod t3 (.prod t46 t3))
abbrev t58 : Ty := .st (.prod t3 (.prod t3 t3))
abbrev t69 : Ty := .st (.prod t36 t36)
abbrev t77 : Ty := .st (.prod t54 t36)
abbrev t92 : Ty := .int .u64
abbrev t88 : Ty := .slice t92
abbrev t108 : Ty := .slice t36
abbrev t125 : Ty := .st (.prod t108 (.prod t36 t36))
abbrev t97 : Ty := .ptr t125
abbrev t103 : Ty := .st (.prod t3 (.prod t3 t3))
abbrev t101 : Ty := .map t103 t3
abbrev t110 : Ty := .st (.prod t26 t108)
abbrev t105 : Ty := .ptr t110
abbrev t119 : Ty := .fn t3 t4
abbrev t126 : Ty := .map t3 t3
abbrev t148 : Ty := .fn t92 t4
abbrev t127 : Ty := .fn t148 .unit
abbrev t129 : Ty := .int .u32
abbrev t131 : Ty := .int .u64
abbrev t133 : Ty := .fn t46 t4
abbrev t137 : Ty := .fn t30 t4
abbrev t138 : Ty := .fn t95 t4
abbrev t140 : Ty := .fn t74 t4
abbrev t141 : Ty := .fn t54 t4
abbrev t146 : Ty := .slice t108
abbrev t169 : Ty := .int .u8
def tab : List (Nat × Ty) := [(3, t3), (4, t4), (5, t5), (8, t8), (9, t9), (10, t10), (11, t11), (22, t22), (23, t23), (24, t24), (26, t26), (28, t28), (30, t30), (33, t33), (36, t36), (42, t42), (44, t44), (46, t46), (48, t48), (54, t54), (58, t58), (69, t69), (72, t72), (74, t74), (77, t77), (88, t88), (92, t92), (95, t95), (97, t97), (101, t101), (103, t103), (105, t105), (108, t108), (110, t110), (119, t119), (125, t125), (126, t126), (127, t127), (129, t129), (131, t131), (133, t133), (137, t137), (138, t138), (140, t140), (141, t141), (146, t146), (148, t148), (169, t169)]
theorem tabOk : TabOk Try.prog (tabT tab) := tabT_ok (by kernel_rfl)
theorem mixOk : Try.prog.follows .mixedOrders = true := by kernel_rfl
def noPhi (_ : Nat) : Option FC := none
theorem noPhi_ok : CtrOk Try.prog noPhi := fun k c h => by cases h
def noU : FnTab := ⟨fun _ => none, fun _ => none⟩
theorem noU_ok : FnTabOk Try.prog noU where
  fnv := fun k v h => by cases h
  clv := fun k v h => by cases h
end Go.Fer.Sk
namespace Go.Fer
theorem M.le_req {α : Type} {p : Prop} {m n : M α} (h : n.safe → p) (k : M.le m n) : M.le (M.req p m) n := fun hs => ⟨⟨h hs, (k hs).1⟩, (k hs).2⟩
theorem isSome_of {α : Type} {o : Option α} {x : α} (h : o = some x) : o.isSome = true := by rw [h]; rfl
def capsAll (ts : Ty) (x : ts.Den) (n : Nat) : Nat → Prop
  | 0 => True
  | k + 1 => capsAll ts x n k ∧ ptrPre (resAV ts x (n + k))
theorem capsAll_get {ts : Ty} {x : ts.Den} {n : Nat} : ∀ {k : Nat}, capsAll ts x n k → ∀ i, i < k → ptrPre (resAV ts x (n + i))
  | 0, _, i, h => by omega
  | k + 1, hc, i, h => by
    by_cases e : i = k
    · rw [e]; exact hc.2
    · exact capsAll_get hc.1 i (by omega)
theorem look_par (ts : Ty) (x : ts.Den) : ∀ (l : List Nat) (i : Nat), look (l.map fun i => (i, resAV ts x i)) i = if i ∈ l then resAV ts x i else .undef
  | [], i => by simp [look]
  | j :: l, i => by
    simp only [List.map_cons, look]
    by_cases e : i = j
    · subst e; simp
    · rw [if_neg e, look_par ts x l i]; simp [e]
theorem caps_pre {ts : Ty} {x : ts.Den} {n : Nat} (h : capsAll ts x n (parN ts - n)) : capsPre n (parSt ts x) := fun i hi => by
  show ptrPre (look (parL ts x (parN ts)) i)
  unfold parL
  rw [look_par]
  split
  · rename_i hm
    rw [List.mem_range] at hm
    have hn : ¬ i < n := fun h => hi (.inl h)
    have := capsAll_get h (i - n) (by omega)
    rwa [show n + (i - n) = i by omega] at this
  · trivial
end Go.Fer
namespace Go.Fer.Sk
open Go.Proofs
open M (Step)
set_option maxRecDepth 100000
set_option linter.unusedVariables false
set_option linter.unusedSimpArgs false
noncomputable def b_k17 : Code := Try.f17.body.getD .skip
theorem b_k17_ok : Try.f17.body = some b_k17 := by kernel_rfl
noncomputable def Psi_k17 (k : Nat) : Option KC := none
theorem Psi_k17_ok : PsiOk Try.prog noU Psi_k17 := by
  intro k c h
  unfold Psi_k17 at h
  cases h
def ann_k17 : Ann := (.seq .leaf (.seq .leaf (.seq .leaf (.seq .leaf (.join ⟨[(2, .loc 2 0), (3, .loc 3 0)], [(2, .cells t26 [.nils, .nils, .val t3, .nils]), (3, .cells t26 [.own 8, .own 59, .val t3, .own 12]), (8, .arr t30), (12, .arr t54), (59, .arr t74)]⟩ (.seq .leaf (.block (.loop ⟨[(1, .loc 1 0), (2, .loc 2 0), (3, .loc 3 0), (4, .val t3)], [(1, .whole t26), (2, .cells t26 [.nils, .nils, .val t3, .nils]), (3, .cells t26 [.own 8, .own 59, .val t3, .own 12]), (8, .arr t30), (12, .arr t54), (59, .arr t74)]⟩ (.seq (.seq .leaf (.cond .leaf .leaf)) (.join ⟨[(1, .loc 1 0), (2, .loc 2 0), (3, .loc 3 0), (4, .val t3)], [(1, .whole t26), (2, .cells t26 [.nils, .nils, .val t3, .nils]), (3, .cells t26 [.own 8, .own 59, .val t3, .own 12]), (8, .arr t30), (12, .arr t54), (59, .arr t74)]⟩ (.block (.seq .leaf (.join ⟨[(1, .loc 1 0), (2, .loc 2 0), (3, .loc 3 0), (4, .val t3), (5, .loc 5 0)], [(1, .whole t26), (2, .cells t26 [.nils, .nils, .val t3, .nils]), (3, .cells t26 [.own 8, .own 59, .val t3, .own 12]), (5, .cells t74 [.own 26]), (8, .arr t30), (12, .arr t54), (26, .arr t95), (59, .arr t74)]⟩ (.seq .leaf (.block (.loop ⟨[(1, .loc 1 0), (2, .loc 2 0), (3, .loc 3 0), (4, .val t3), (5, .loc 5 0), (6, .val t3)], [(1, .whole t26), (2, .cells t26 [.nils, .nils, .val t3, .nils]), (3, .cells t26 [.own 8, .own 59, .val t3, .own 12]), (5, .cells t74 [.own 26]), (8, .arr t30), (12, .arr t54), (26, .arr t95), (59, .arr t74)]⟩ (.seq (.seq .leaf (.cond .leaf .leaf)) (.seq (.block .leaf) .leaf))))) .leaf))) .leaf))))) (.seq .leaf .leaf))))))
theorem l_k17 (x) : funI noU (tabT tab) noPhi Psi_k17 Try.f17 b_k17 ann_k17 t26 t26 x = S_ref07_Copy  x := by kernel_rfl
theorem spec_k17 : FnSpec Try.prog 17 t26 t26 fcCopy.sh :=
  fn_ok mixOk tabOk noU_ok noPhi_ok Psi_k17_ok Try.func17 b_k17_ok (by kernel_rfl) fun x => M.le_trans (M.le_of_eq (l_k17 x)) (sCopy x)
noncomputable def b_k59 : Code := Try.f59.body.getD .skip
theorem b_k59_ok : Try.f59.body = some b_k59 := by kernel_rfl
noncomputable def Psi_k59 (k : Nat) : Option KC := none
theorem Psi_k59_ok : PsiOk Try.prog noU Psi_k59 := by
  intro k c h
  unfold Psi_k59 at h
  cases h
def ann_k59 : Ann := (.seq .leaf (.seq .leaf .leaf))
theorem l_k59 (x) : funI noU (tabT tab) noPhi Psi_k59 Try.f59 b_k59 ann_k59 (.prod t3 (.prod t3 t3)) t4 x = S_ref07_Within  x := by kernel_rfl
theorem spec_k59 : FnSpec Try.prog 59 (.prod t3 (.prod t3 t3)) t4 fcWithin.sh :=
  fn_ok mixOk tabOk noU_ok noPhi_ok Psi_k59_ok Try.func59 b_k59_ok (by kernel_rfl) fun x => M.le_trans (M.le_of_eq (l_k59 x)) (sWithin x)
noncomputable def b_k20 : Code := Try.f20.body.getD .skip
theorem b_k20_ok : Try.f20.body = some b_k20 := by kernel_rfl
noncomputable def Psi_k20 (k : Nat) : Option KC := if k = 59 then some (.sc ⟨(.prod t3 (.prod t3 t3)), t4, fcWithin.sh, true⟩) else none
theorem Psi_k20_ok : PsiOk Try.prog noU Psi_k20 := by
  intro k c h
  unfold Psi_k20 at h
  split at h
  · cases h; subst_vars; exact ⟨spec_k59, fun _ _ => M.det_det⟩
  cases h
def ann_k20 : Ann := (.seq .leaf (.seq .leaf .leaf))
theorem l_k20 (x) : funI noU (tabT tab) noPhi Psi_k20 Try.f20 b_k20 ann_k20 (.prod t26 t3) t4 x = S_ref07_IsSpare fcWithin.sh x := by kernel_rfl
theorem spec_k20 : FnSpec Try.prog 20 (.prod t26 t3) t4 fcIsSpare.sh :=
  fn_ok mixOk tabOk noU_ok noPhi_ok Psi_k20_ok Try.func20 b_k20_ok (by kernel_rfl) fun x => M.le_trans (M.le_of_eq (l_k20 x)) (sIsSpare x)
noncomputable def b_k62 : Code := Try.f62.body.getD .skip
theorem b_k62_ok : Try.f62.body = some b_k62 := by kernel_rfl
noncomputable def Psi_k62 (k : Nat) : Option KC := if k = 59 then some (.sc ⟨(.prod t3 (.prod t3 t3)), t4, fcWithin.sh, true⟩) else none
theorem Psi_k62_ok : PsiOk Try.prog noU Psi_k62 := by
  intro k c h
  unfold Psi_k62 at h
  split at h
  · cases h; subst_vars; exact ⟨spec_k59, fun _ _ => M.det_det⟩
  cases h
def ann_k62 : Ann := (.seq .leaf (.seq .leaf .leaf))
theorem l_k62 (x) : funI noU (tabT tab) noPhi Psi_k62 Try.f62 b_k62 ann_k62 (.prod t26 t3) t4 x = S_ref07_IsMake fcWithin.sh x := by kernel_rfl
theorem spec_k62 : FnSpec Try.prog 62 (.prod t26 t3) t4 fcIsMake.sh :=
  fn_ok mixOk tabOk noU_ok noPhi_ok Psi_k62_ok Try.func62 b_k62_ok (by kernel_rfl) fun x => M.le_trans (M.le_of_eq (l_k62 x)) (sIsMake x)
noncomputable def b_k22 : Code := Try.f22.body.getD .skip
theorem b_k22_ok : Try.f22.body = some b_k22 := by kernel_rfl
noncomputable def Psi_k22 (k : Nat) : Option KC := if k = 59 then some (.sc ⟨(.prod t3 (.prod t3 t3)), t4, fcWithin.sh, true⟩) else if k = 62 then some (.sc ⟨(.prod t26 t3), t4, fcIsMake.sh, true⟩) else none
theorem Psi_k22_ok : PsiOk Try.prog noU Psi_k22 := by
  intro k c h
  unfold Psi_k22 at h
  split at h
  · cases h; subst_vars; exact ⟨spec_k59, fun _ _ => M.det_det⟩
  split at h
  · cases h; subst_vars; exact ⟨spec_k62, fun _ _ => M.det_det⟩
  cases h
def ann_k22 : Ann := (.seq .leaf (.seq .leaf .leaf))
theorem l_k22 (x) : funI noU (tabT tab) noPhi Psi_k22 Try.f22 b_k22 ann_k22 (.prod t26 (.prod t3 t3)) t4 x = S_ref07_IsSlotOf fcWithin.sh fcIsMake.sh x := by kernel_rfl
theorem spec_k22 : FnSpec Try.prog 22 (.prod t26 (.prod t3 t3)) t4 fcIsSlotOf.sh :=
  fn_ok mixOk tabOk noU_ok noPhi_ok Psi_k22_ok Try.func22 b_k22_ok (by kernel_rfl) fun x => M.le_trans (M.le_of_eq (l_k22 x)) (sIsSlotOf x)
noncomputable def b_k102 : Code := Try.f102.body.getD .skip
theorem b_k102_ok : Try.f102.body = some b_k102 := by kernel_rfl
noncomputable def Psi_k102 (k : Nat) : Option KC := if k = 59 then some (.sc ⟨(.prod t3 (.prod t3 t3)), t4, fcWithin.sh, true⟩) else none
theorem Psi_k102_ok : PsiOk Try.prog noU Psi_k102 := by
  intro k c h
  unfold Psi_k102 at h
  split at h
  · cases h; subst_vars; exact ⟨spec_k59, fun _ _ => M.det_det⟩
  cases h
def ann_k102 : Ann := (.seq .leaf (.seq .leaf .leaf))
theorem l_k102 (x) : funI noU (tabT tab) noPhi Psi_k102 Try.f102 b_k102 ann_k102 t28 t4 x = S_ref07_isLength fcWithin.sh x := by kernel_rfl
theorem spec_k102 : FnSpec Try.prog 102 t28 t4 fcIsLength.sh :=
  fn_ok mixOk tabOk noU_ok noPhi_ok Psi_k102_ok Try.func102 b_k102_ok (by kernel_rfl) fun x => M.le_trans (M.le_of_eq (l_k102 x)) (sIsLength x)
noncomputable def b_k45 : Code := Try.f45.body.getD .skip
theorem b_k45_ok : Try.f45.body = some b_k45 := by kernel_rfl
noncomputable def Psi_k45 (k : Nat) : Option KC := none
theorem Psi_k45_ok : PsiOk Try.prog noU Psi_k45 := by
  intro k c h
  unfold Psi_k45 at h
  cases h
def ann_k45 : Ann := (.seq .leaf (.join ⟨[], []⟩ (.seq .leaf (.block (.loop ⟨[(0, .val t36), (3, .val t3)], []⟩ (.seq (.seq .leaf (.cond .leaf .leaf)) (.seq (.block (.seq .leaf (.cond (.seq .leaf .leaf) .leaf))) .leaf))))) (.seq .leaf .leaf)))
theorem l_k45 (x) : funI noU (tabT tab) noPhi Psi_k45 Try.f45 b_k45 ann_k45 t36 t4 x = S_ref07_Ascending  x := by kernel_rfl
theorem spec_k45 : FnSpec Try.prog 45 t36 t4 fcAscending.sh :=
  fn_ok mixOk tabOk noU_ok noPhi_ok Psi_k45_ok Try.func45 b_k45_ok (by kernel_rfl) fun x => M.le_trans (M.le_of_eq (l_k45 x)) (sAscending x)
noncomputable def b_k103 : Code := Try.f103.body.getD .skip
theorem b_k103_ok : Try.f103.body = some b_k103 := by kernel_rfl
noncomputable def Psi_k103 (k : Nat) : Option KC := if k = 45 then some (.sc ⟨t36, t4, fcAscending.sh, true⟩) else if k = 59 then some (.sc ⟨(.prod t3 (.prod t3 t3)), t4, fcWithin.sh, true⟩) else if k = 102 then some (.sc ⟨t28, t4, fcIsLength.sh, true⟩) else none
theorem Psi_k103_ok : PsiOk Try.prog noU Psi_k103 := by
  intro k c h
  unfold Psi_k103 at h
  split at h
  · cases h; subst_vars; exact ⟨spec_k45, fun _ _ => M.det_det⟩
  split at h
  · cases h; subst_vars; exact ⟨spec_k59, fun _ _ => M.det_det⟩
  split at h
  · cases h; subst_vars; exact ⟨spec_k102, fun _ _ => M.det_det⟩
  cases h
def ann_k103 : Ann := (.seq .leaf (.join ⟨[(1, .loc 1 0)], [(1, .whole t95)]⟩ (.seq .leaf (.block (.loop ⟨[(1, .loc 1 0), (3, .val t3)], [(1, .whole t95)]⟩ (.seq (.seq .leaf (.cond .leaf .leaf)) (.seq (.block (.seq .leaf (.cond (.seq .leaf .leaf) .leaf))) .leaf))))) (.seq .leaf .leaf)))
theorem l_k103 (x) : funI noU (tabT tab) noPhi Psi_k103 Try.f103 b_k103 ann_k103 t95 t4 x = S_ref07_isSlot fcAscending.sh fcWithin.sh fcIsLength.sh x := by kernel_rfl
theorem spec_k103 : FnSpec Try.prog 103 t95 t4 fcIsSlot.sh :=
  fn_ok mixOk tabOk noU_ok noPhi_ok Psi_k103_ok Try.func103 b_k103_ok (by kernel_rfl) fun x => M.le_trans (M.le_of_eq (l_k103 x)) (sIsSlot x)
noncomputable def b_k64 : Code := Try.f64.body.getD .skip
theorem b_k64_ok : Try.f64.body = some b_k64 := by kernel_rfl
noncomputable def Psi_k64 (k : Nat) : Option KC := if k = 20 then some (.sc ⟨(.prod t26 t3), t4, fcIsSpare.sh, true⟩) else if k = 22 then some (.sc ⟨(.prod t26 (.prod t3 t3)), t4, fcIsSlotOf.sh, true⟩) else if k = 59 then some (.sc ⟨(.prod t3 (.prod t3 t3)), t4, fcWithin.sh, true⟩) else if k = 102 then some (.sc ⟨t28, t4, fcIsLength.sh, true⟩) else if k = 103 then some (.sc ⟨t95, t4, fcIsSlot.sh, true⟩) else none
theorem Psi_k64_ok : PsiOk Try.prog noU Psi_k64 := by
  intro k c h
  unfold Psi_k64 at h
  split at h
  · cases h; subst_vars; exact ⟨spec_k20, fun _ _ => M.det_det⟩
  split at h
  · cases h; subst_vars; exact ⟨spec_k22, fun _ _ => M.det_det⟩
  split at h
  · cases h; subst_vars; exact ⟨spec_k59, fun _ _ => M.det_det⟩
  split at h
  · cases h; subst_vars; exact ⟨spec_k102, fun _ _ => M.det_det⟩
  split at h
  · cases h; subst_vars; exact ⟨spec_k103, fun _ _ => M.det_det⟩
  cases h
def ann_k64 : Ann := (.seq .leaf (.seq (.seq .leaf (.cond (.seq .leaf .leaf) .leaf)) (.join ⟨[(1, .loc 1 0)], [(1, .whole t26)]⟩ (.seq .leaf (.block (.loop ⟨[(1, .loc 1 0), (3, .val t3)], [(1, .whole t26)]⟩ (.seq (.seq .leaf (.cond .leaf .leaf)) (.seq (.block (.seq .leaf (.seq .leaf (.cond (.seq .leaf .leaf) .leaf)))) .leaf))))) (.join ⟨[(1, .loc 1 0)], [(1, .whole t26)]⟩ (.seq .leaf (.block (.loop ⟨[(1, .loc 1 0), (5, .val t3)], [(1, .whole t26)]⟩ (.seq (.seq .leaf (.cond .leaf .leaf)) (.join ⟨[(1, .loc 1 0), (5, .val t3)], [(1, .whole t26)]⟩ (.block (.seq (.seq .leaf (.cond (.seq .leaf .leaf) .leaf)) (.seq .leaf (.block (.loop ⟨[(1, .loc 1 0), (5, .val t3), (6, .val t3)], [(1, .whole t26)]⟩ (.seq (.seq .leaf (.cond .leaf .leaf)) (.seq (.block (.seq .leaf (.cond (.seq .leaf .leaf) .leaf))) .leaf))))))) .leaf))))) (.join ⟨[], []⟩ (.seq .leaf (.block (.loop ⟨[(1, .loc 1 0), (7, .val t3)], [(1, .whole t26)]⟩ (.seq (.seq .leaf (.cond .leaf .leaf)) (.seq (.block (.seq .leaf (.seq .leaf (.cond (.seq .leaf .leaf) .leaf)))) .leaf))))) (.seq .leaf .leaf))))))
theorem l_k64 (x) : funI noU (tabT tab) noPhi Psi_k64 Try.f64 b_k64 ann_k64 t26 t4 x = S_ref07_isWorkshop fcIsSpare.sh fcIsSlotOf.sh fcWithin.sh fcIsLength.sh fcIsSlot.sh x := by kernel_rfl
theorem spec_k64 : FnSpec Try.prog 64 t26 t4 fcIsWorkshop.sh :=
  fn_ok mixOk tabOk noU_ok noPhi_ok Psi_k64_ok Try.func64 b_k64_ok (by kernel_rfl) fun x => M.le_trans (M.le_of_eq (l_k64 x)) (sIsWorkshop x)
noncomputable def b_k26 : Code := Try.f26.body.getD .skip
theorem b_k26_ok : Try.f26.body = some b_k26 := by kernel_rfl
noncomputable def Psi_k26 (k : Nat) : Option KC := if k = 64 then some (.sc ⟨t26, t4, fcIsWorkshop.sh, true⟩) else none
theorem Psi_k26_ok : PsiOk Try.prog noU Psi_k26 := by
  intro k c h
  unfold Psi_k26 at h
  split at h
  · cases h; subst_vars; exact ⟨spec_k64, fun _ _ => M.det_det⟩
  cases h
def ann_k26 : Ann := (.seq .leaf (.seq (.seq .leaf (.cond (.seq .leaf .leaf) .leaf)) (.join ⟨[], []⟩ (.seq .leaf (.block (.loop ⟨[(1, .loc 1 0), (3, .val t3)], [(1, .whole t26)]⟩ (.seq (.seq .leaf (.cond .leaf .leaf)) (.join ⟨[(1, .loc 1 0), (3, .val t3)], [(1, .whole t26)]⟩ (.block (.seq .leaf (.block (.loop ⟨[(1, .loc 1 0), (3, .val t3), (4, .val t3)], [(1, .whole t26)]⟩ (.seq (.seq .leaf (.cond .leaf .leaf)) (.seq (.block (.seq .leaf (.seq .leaf (.cond (.seq .leaf .leaf) .leaf)))) .leaf)))))) .leaf))))) (.seq .leaf .leaf))))
theorem l_k26 (x) : funI noU (tabT tab) noPhi Psi_k26 Try.f26 b_k26 ann_k26 t26 t33 x = S_ref07_Check fcIsWorkshop.sh x := by kernel_rfl
theorem spec_k26 : FnSpec Try.prog 26 t26 t33 fcCheck.sh :=
  fn_ok mixOk tabOk noU_ok noPhi_ok Psi_k26_ok Try.func26 b_k26_ok (by kernel_rfl) fun x => M.le_trans (M.le_of_eq (l_k26 x)) (sCheck x)
noncomputable def b_k18 : Code := Try.f18.body.getD .skip
theorem b_k18_ok : Try.f18.body = some b_k18 := by kernel_rfl
noncomputable def Psi_k18 (k : Nat) : Option KC := none
theorem Psi_k18_ok : PsiOk Try.prog noU Psi_k18 := by
  intro k c h
  unfold Psi_k18 at h
  cases h
def ann_k18 : Ann := (.seq .leaf (.join ⟨[], []⟩ (.seq .leaf (.block (.loop ⟨[(0, .val t36), (1, .val t3), (5, .val t3)], []⟩ (.seq (.seq .leaf (.cond .leaf .leaf)) (.seq (.block (.seq .leaf (.cond (.seq .leaf .leaf) .leaf))) .leaf))))) (.seq .leaf .leaf)))
theorem l_k18 (x) : funI noU (tabT tab) noPhi Psi_k18 Try.f18 b_k18 ann_k18 (.prod t36 t3) t4 x = S_ref07_In  x := by kernel_rfl
theorem spec_k18 : FnSpec Try.prog 18 (.prod t36 t3) t4 fcIn.sh :=
  fn_ok mixOk tabOk noU_ok noPhi_ok Psi_k18_ok Try.func18 b_k18_ok (by kernel_rfl) fun x => M.le_trans (M.le_of_eq (l_k18 x)) (sIn x)
noncomputable def b_k42 : Code := Try.f42.body.getD .skip
theorem b_k42_ok : Try.f42.body = some b_k42 := by kernel_rfl
noncomputable def Psi_k42 (k : Nat) : Option KC := if k = 18 then some (.sc ⟨(.prod t36 t3), t4, fcIn.sh, true⟩) else if k = 59 then some (.sc ⟨(.prod t3 (.prod t3 t3)), t4, fcWithin.sh, true⟩) else none
theorem Psi_k42_ok : PsiOk Try.prog noU Psi_k42 := by
  intro k c h
  unfold Psi_k42 at h
  split at h
  · cases h; subst_vars; exact ⟨spec_k18, fun _ _ => M.det_det⟩
  split at h
  · cases h; subst_vars; exact ⟨spec_k59, fun _ _ => M.det_det⟩
  cases h
def ann_k42 : Ann := (.seq .leaf (.seq .leaf (.seq .leaf .leaf)))
theorem l_k42 (x) : funI noU (tabT tab) noPhi Psi_k42 Try.f42 b_k42 ann_k42 (.prod t26 (.prod t3 (.prod t3 (.prod t3 t3)))) t4 x = S_ref07_FitsAt fcIn.sh fcWithin.sh x := by kernel_rfl
theorem spec_k42 : FnSpec Try.prog 42 (.prod t26 (.prod t3 (.prod t3 (.prod t3 t3)))) t4 fcFitsAt.sh :=
  fn_ok mixOk tabOk noU_ok noPhi_ok Psi_k42_ok Try.func42 b_k42_ok (by kernel_rfl) fun x => M.le_trans (M.le_of_eq (l_k42 x)) (sFitsAt x)
noncomputable def b_k40 : Code := Try.f40.body.getD .skip
theorem b_k40_ok : Try.f40.body = some b_k40 := by kernel_rfl
noncomputable def Psi_k40 (k : Nat) : Option KC := if k = 42 then some (.sc ⟨(.prod t26 (.prod t3 (.prod t3 (.prod t3 t3)))), t4, fcFitsAt.sh, true⟩) else if k = 59 then some (.sc ⟨(.prod t3 (.prod t3 t3)), t4, fcWithin.sh, true⟩) else none
theorem Psi_k40_ok : PsiOk Try.prog noU Psi_k40 := by
  intro k c h
  unfold Psi_k40 at h
  split at h
  · cases h; subst_vars; exact ⟨spec_k42, fun _ _ => M.det_det⟩
  split at h
  · cases h; subst_vars; exact ⟨spec_k59, fun _ _ => M.det_det⟩
  cases h
def ann_k40 : Ann := (.seq .leaf (.join ⟨[(1, .val t3), (2, .val t3), (3, .loc 3 0)], [(3, .whole t26)]⟩ (.seq .leaf (.block (.loop ⟨[(1, .val t3), (2, .val t3), (3, .loc 3 0), (7, .val t3)], [(3, .whole t26)]⟩ (.seq (.seq .leaf (.cond .leaf .leaf)) (.seq (.block (.seq .leaf (.seq .leaf (.cond (.seq .leaf .leaf) .leaf)))) .leaf))))) (.seq .leaf .leaf)))
theorem l_k40 (x) : funI noU (tabT tab) noPhi Psi_k40 Try.f40 b_k40 ann_k40 (.prod t26 (.prod t3 t3)) t4 x = S_ref07_CanBe fcFitsAt.sh fcWithin.sh x := by kernel_rfl
theorem spec_k40 : FnSpec Try.prog 40 (.prod t26 (.prod t3 t3)) t4 fcCanBe.sh :=
  fn_ok mixOk tabOk noU_ok noPhi_ok Psi_k40_ok Try.func40 b_k40_ok (by kernel_rfl) fun x => M.le_trans (M.le_of_eq (l_k40 x)) (sCanBe x)
noncomputable def b_k68 : Code := Try.f68.body.getD .skip
theorem b_k68_ok : Try.f68.body = some b_k68 := by kernel_rfl
noncomputable def Psi_k68 (k : Nat) : Option KC := if k = 40 then some (.sc ⟨(.prod t26 (.prod t3 t3)), t4, fcCanBe.sh, true⟩) else none
theorem Psi_k68_ok : PsiOk Try.prog noU Psi_k68 := by
  intro k c h
  unfold Psi_k68 at h
  split at h
  · cases h; subst_vars; exact ⟨spec_k40, fun _ _ => M.det_det⟩
  cases h
def ann_k68 : Ann := (.seq .leaf (.seq .leaf (.join ⟨[(5, .own 5)], [(5, .arr t3)]⟩ (.seq .leaf (.block (.loop ⟨[(1, .val t3), (2, .loc 2 0), (5, .own 5), (6, .val t3)], [(2, .whole t26), (5, .arr t3)]⟩ (.seq (.seq .leaf (.cond .leaf .leaf)) (.join ⟨[(1, .val t3), (2, .loc 2 0), (5, .own 5), (6, .val t3)], [(2, .whole t26), (5, .arr t3)]⟩ (.block (.seq .leaf (.cond .leaf .leaf))) .leaf))))) (.seq .leaf .leaf))))
theorem l_k68 (x) : funI noU (tabT tab) noPhi Psi_k68 Try.f68 b_k68 ann_k68 (.prod t26 t3) t36 x = S_ref07_all fcCanBe.sh x := by kernel_rfl
theorem spec_k68 : FnSpec Try.prog 68 (.prod t26 t3) t36 fcAll.sh :=
  fn_ok mixOk tabOk noU_ok noPhi_ok Psi_k68_ok Try.func68 b_k68_ok (by kernel_rfl) fun x => M.le_trans (M.le_of_eq (l_k68 x)) (sAll x)
noncomputable def b_k67 : Code := Try.f67.body.getD .skip
theorem b_k67_ok : Try.f67.body = some b_k67 := by kernel_rfl
noncomputable def Psi_k67 (k : Nat) : Option KC := if k = 26 then some (.sc ⟨t26, t33, fcCheck.sh, true⟩) else if k = 68 then some (.sc ⟨(.prod t26 t3), t36, fcAll.sh, true⟩) else none
theorem Psi_k67_ok : PsiOk Try.prog noU Psi_k67 := by
  intro k c h
  unfold Psi_k67 at h
  split at h
  · cases h; subst_vars; exact ⟨spec_k26, fun _ _ => M.det_det⟩
  split at h
  · cases h; subst_vars; exact ⟨spec_k68, fun _ _ => M.det_det⟩
  cases h
def ann_k67 : Ann := (.seq .leaf (.seq (.seq .leaf (.seq .leaf (.cond (.seq .leaf .leaf) .leaf))) (.seq (.seq .leaf (.cond (.seq .leaf .leaf) .leaf)) (.join ⟨[], []⟩ (.seq .leaf (.block (.loop ⟨[(2, .loc 2 0), (6, .val t3)], [(2, .whole t26)]⟩ (.seq (.seq .leaf (.cond .leaf .leaf)) (.seq (.block (.seq .leaf (.cond (.seq .leaf .leaf) .leaf))) .leaf))))) (.seq .leaf .leaf)))))
theorem l_k67 (x) : funI noU (tabT tab) noPhi Psi_k67 Try.f67 b_k67 ann_k67 (.prod t26 t4) t33 x = S_ref07_known fcCheck.sh fcAll.sh x := by kernel_rfl
theorem spec_k67 : FnSpec Try.prog 67 (.prod t26 t4) t33 fcKnown0.sh :=
  fn_ok mixOk tabOk noU_ok noPhi_ok Psi_k67_ok Try.func67 b_k67_ok (by kernel_rfl) fun x => M.le_trans (M.le_of_eq (l_k67 x)) (sKnown0 x)
noncomputable def b_k28 : Code := Try.f28.body.getD .skip
theorem b_k28_ok : Try.f28.body = some b_k28 := by kernel_rfl
noncomputable def Psi_k28 (k : Nat) : Option KC := if k = 20 then some (.sc ⟨(.prod t26 t3), t4, fcIsSpare.sh, true⟩) else if k = 67 then some (.sc ⟨(.prod t26 t4), t33, fcKnown0.sh, true⟩) else if k = 68 then some (.sc ⟨(.prod t26 t3), t36, fcAll.sh, true⟩) else none
theorem Psi_k28_ok : PsiOk Try.prog noU Psi_k28 := by
  intro k c h
  unfold Psi_k28 at h
  split at h
  · cases h; subst_vars; exact ⟨spec_k20, fun _ _ => M.det_det⟩
  split at h
  · cases h; subst_vars; exact ⟨spec_k67, fun _ _ => M.det_det⟩
  split at h
  · cases h; subst_vars; exact ⟨spec_k68, fun _ _ => M.det_det⟩
  cases h
def ann_k28 : Ann := (.seq .leaf (.seq (.seq .leaf (.seq .leaf (.cond (.seq .leaf .leaf) .leaf))) (.seq .leaf (.seq .leaf .leaf))))
theorem l_k28 (x) : funI noU (tabT tab) noPhi Psi_k28 Try.f28 b_k28 ann_k28 (.prod t26 t3) (.prod t28 t33) x = S_ref07_Length fcIsSpare.sh fcKnown0.sh fcAll.sh x := by kernel_rfl
theorem spec_k28 : FnSpec Try.prog 28 (.prod t26 t3) (.prod t28 t33) fcLength.sh :=
  fn_ok mixOk tabOk noU_ok noPhi_ok Psi_k28_ok Try.func28 b_k28_ok (by kernel_rfl) fun x => M.le_trans (M.le_of_eq (l_k28 x)) (sLength x)
noncomputable def b_k107 : Code := Try.f107.body.getD .skip
theorem b_k107_ok : Try.f107.body = some b_k107 := by kernel_rfl
noncomputable def Psi_k107 (k : Nat) : Option KC := none
theorem Psi_k107_ok : PsiOk Try.prog noU Psi_k107 := by
  intro k c h
  unfold Psi_k107 at h
  cases h
def ann_k107 : Ann := (.seq .leaf (.seq (.seq .leaf (.block (.seq .leaf (.cond (.seq .leaf .leaf) (.seq .leaf (.cond (.seq .leaf .leaf) .leaf)))))) (.seq .leaf .leaf)))
theorem l_k107 (x) : funI noU (tabT tab) noPhi Psi_k107 Try.f107 b_k107 ann_k107 (.prod t3 t3) t3 x = S_ref07_is  x := by kernel_rfl
theorem spec_k107 : FnSpec Try.prog 107 (.prod t3 t3) t3 fcIs.sh :=
  fn_ok mixOk tabOk noU_ok noPhi_ok Psi_k107_ok Try.func107 b_k107_ok (by kernel_rfl) fun x => M.le_trans (M.le_of_eq (l_k107 x)) (sIs x)
noncomputable def b_k71 : Code := Try.f71.body.getD .skip
theorem b_k71_ok : Try.f71.body = some b_k71 := by kernel_rfl
noncomputable def Psi_k71 (k : Nat) : Option KC := if k = 42 then some (.sc ⟨(.prod t26 (.prod t3 (.prod t3 (.prod t3 t3)))), t4, fcFitsAt.sh, true⟩) else if k = 68 then some (.sc ⟨(.prod t26 t3), t36, fcAll.sh, true⟩) else if k = 107 then some (.sc ⟨(.prod t3 t3), t3, fcIs.sh, true⟩) else none
theorem Psi_k71_ok : PsiOk Try.prog noU Psi_k71 := by
  intro k c h
  unfold Psi_k71 at h
  split at h
  · cases h; subst_vars; exact ⟨spec_k42, fun _ _ => M.det_det⟩
  split at h
  · cases h; subst_vars; exact ⟨spec_k68, fun _ _ => M.det_det⟩
  split at h
  · cases h; subst_vars; exact ⟨spec_k107, fun _ _ => M.det_det⟩
  cases h
def ann_k71 : Ann := (.seq .leaf (.seq .leaf (.seq .leaf (.join ⟨[(9, .val t36), (10, .val t3)], []⟩ (.seq .leaf (.block (.loop ⟨[(1, .val t3), (2, .val t3), (3, .val t3), (4, .loc 4 0), (9, .val t36), (10, .val t3), (11, .val t3)], [(4, .whole t26)]⟩ (.seq (.seq .leaf (.cond .leaf .leaf)) (.join ⟨[(1, .val t3), (2, .val t3), (3, .val t3), (4, .loc 4 0), (9, .val t36), (10, .val t3), (11, .val t3)], [(4, .whole t26)]⟩ (.block (.seq .leaf (.cond .leaf .leaf))) .leaf))))) (.seq .leaf .leaf)))))
theorem l_k71 (x) : funI noU (tabT tab) noPhi Psi_k71 Try.f71 b_k71 ann_k71 (.prod t26 (.prod t3 (.prod t3 t3))) t3 x = S_ref07_fits fcFitsAt.sh fcAll.sh fcIs.sh x := by kernel_rfl
theorem spec_k71 : FnSpec Try.prog 71 (.prod t26 (.prod t3 (.prod t3 t3))) t3 fcFits0.sh :=
  fn_ok mixOk tabOk noU_ok noPhi_ok Psi_k71_ok Try.func71 b_k71_ok (by kernel_rfl) fun x => M.le_trans (M.le_of_eq (l_k71 x)) (sFits0 x)
noncomputable def b_k30 : Code := Try.f30.body.getD .skip
theorem b_k30_ok : Try.f30.body = some b_k30 := by kernel_rfl
noncomputable def Psi_k30 (k : Nat) : Option KC := if k = 20 then some (.sc ⟨(.prod t26 t3), t4, fcIsSpare.sh, true⟩) else if k = 22 then some (.sc ⟨(.prod t26 (.prod t3 t3)), t4, fcIsSlotOf.sh, true⟩) else if k = 67 then some (.sc ⟨(.prod t26 t4), t33, fcKnown0.sh, true⟩) else if k = 71 then some (.sc ⟨(.prod t26 (.prod t3 (.prod t3 t3))), t3, fcFits0.sh, true⟩) else none
theorem Psi_k30_ok : PsiOk Try.prog noU Psi_k30 := by
  intro k c h
  unfold Psi_k30 at h
  split at h
  · cases h; subst_vars; exact ⟨spec_k20, fun _ _ => M.det_det⟩
  split at h
  · cases h; subst_vars; exact ⟨spec_k22, fun _ _ => M.det_det⟩
  split at h
  · cases h; subst_vars; exact ⟨spec_k67, fun _ _ => M.det_det⟩
  split at h
  · cases h; subst_vars; exact ⟨spec_k71, fun _ _ => M.det_det⟩
  cases h
def ann_k30 : Ann := (.seq .leaf (.seq (.seq .leaf (.seq .leaf (.cond (.seq .leaf .leaf) .leaf))) (.seq .leaf .leaf)))
theorem l_k30 (x) : funI noU (tabT tab) noPhi Psi_k30 Try.f30 b_k30 ann_k30 (.prod t26 (.prod t3 (.prod t3 t3))) (.prod t3 t33) x = S_ref07_Fits fcIsSpare.sh fcIsSlotOf.sh fcKnown0.sh fcFits0.sh x := by kernel_rfl
theorem spec_k30 : FnSpec Try.prog 30 (.prod t26 (.prod t3 (.prod t3 t3))) (.prod t3 t33) fcFits.sh :=
  fn_ok mixOk tabOk noU_ok noPhi_ok Psi_k30_ok Try.func30 b_k30_ok (by kernel_rfl) fun x => M.le_trans (M.le_of_eq (l_k30 x)) (sFits x)
noncomputable def b_k73 : Code := Try.f73.body.getD .skip
theorem b_k73_ok : Try.f73.body = some b_k73 := by kernel_rfl
noncomputable def Psi_k73 (k : Nat) : Option KC := if k = 20 then some (.sc ⟨(.prod t26 t3), t4, fcIsSpare.sh, true⟩) else if k = 45 then some (.sc ⟨t36, t4, fcAscending.sh, true⟩) else none
theorem Psi_k73_ok : PsiOk Try.prog noU Psi_k73 := by
  intro k c h
  unfold Psi_k73 at h
  split at h
  · cases h; subst_vars; exact ⟨spec_k20, fun _ _ => M.det_det⟩
  split at h
  · cases h; subst_vars; exact ⟨spec_k45, fun _ _ => M.det_det⟩
  cases h
def ann_k73 : Ann := (.seq .leaf (.join ⟨[(1, .val t36)], []⟩ (.seq .leaf (.block (.loop ⟨[(1, .val t36), (2, .loc 2 0), (5, .val t3)], [(2, .whole t26)]⟩ (.seq (.seq .leaf (.cond .leaf .leaf)) (.seq (.block (.seq .leaf (.cond (.seq .leaf .leaf) .leaf))) .leaf))))) (.seq .leaf .leaf)))
theorem l_k73 (x) : funI noU (tabT tab) noPhi Psi_k73 Try.f73 b_k73 ann_k73 (.prod t26 t36) t4 x = S_ref07_isList fcIsSpare.sh fcAscending.sh x := by kernel_rfl
theorem spec_k73 : FnSpec Try.prog 73 (.prod t26 t36) t4 fcIsList.sh :=
  fn_ok mixOk tabOk noU_ok noPhi_ok Psi_k73_ok Try.func73 b_k73_ok (by kernel_rfl) fun x => M.le_trans (M.le_of_eq (l_k73 x)) (sIsList x)
noncomputable def b_k74 : Code := Try.f74.body.getD .skip
theorem b_k74_ok : Try.f74.body = some b_k74 := by kernel_rfl
noncomputable def Psi_k74 (k : Nat) : Option KC := if k = 18 then some (.sc ⟨(.prod t36 t3), t4, fcIn.sh, true⟩) else if k = 107 then some (.sc ⟨(.prod t3 t3), t3, fcIs.sh, true⟩) else none
theorem Psi_k74_ok : PsiOk Try.prog noU Psi_k74 := by
  intro k c h
  unfold Psi_k74 at h
  split at h
  · cases h; subst_vars; exact ⟨spec_k18, fun _ _ => M.det_det⟩
  split at h
  · cases h; subst_vars; exact ⟨spec_k107, fun _ _ => M.det_det⟩
  cases h
def ann_k74 : Ann := (.seq .leaf (.seq .leaf (.join ⟨[(3, .val t3), (4, .loc 4 0), (9, .val t36)], [(4, .whole t26)]⟩ (.seq .leaf (.block (.loop ⟨[(1, .val t108), (2, .val t36), (3, .val t3), (4, .loc 4 0), (9, .val t36), (10, .val t3)], [(4, .whole t26)]⟩ (.seq (.seq .leaf (.cond .leaf .leaf)) (.join ⟨[(1, .val t108), (2, .val t36), (3, .val t3), (4, .loc 4 0), (9, .own 12), (10, .val t3)], [(4, .whole t26), (12, .arr t3)]⟩ (.block (.seq .leaf (.seq .leaf (.join ⟨[(1, .val t108), (2, .val t36), (3, .val t3), (4, .loc 4 0), (10, .val t3), (12, .own 12)], [(4, .whole t26), (12, .arr t3)]⟩ (.seq .leaf (.block (.loop ⟨[(1, .val t108), (2, .val t36), (3, .val t3), (4, .loc 4 0), (9, .val t36), (10, .val t3), (11, .val t36), (12, .own 12), (13, .val t3)], [(4, .whole t26), (12, .arr t3)]⟩ (.seq (.seq .leaf (.cond .leaf .leaf)) (.join ⟨[(1, .val t108), (2, .val t36), (3, .val t3), (4, .loc 4 0), (9, .val t36), (10, .val t3), (11, .val t36), (12, .own 12), (13, .val t3)], [(4, .whole t26), (12, .arr t3)]⟩ (.block (.seq .leaf (.block (.loop ⟨[(1, .val t108), (2, .val t36), (3, .val t3), (4, .loc 4 0), (9, .val t36), (10, .val t3), (11, .val t36), (12, .own 12), (13, .val t3), (14, .val t3)], [(4, .whole t26), (12, .arr t3)]⟩ (.seq (.seq .leaf (.cond .leaf .leaf)) (.join ⟨[(1, .val t108), (2, .val t36), (3, .val t3), (4, .loc 4 0), (9, .val t36), (10, .val t3), (11, .val t36), (12, .own 12), (13, .val t3), (14, .val t3)], [(4, .whole t26), (12, .arr t3)]⟩ (.block (.seq .leaf (.seq .leaf (.cond .leaf .leaf)))) .leaf)))))) .leaf))))) .leaf)))) .leaf))))) (.seq .leaf (.join ⟨[(9, .val t36), (16, .val t3)], []⟩ (.seq .leaf (.block (.loop ⟨[(3, .val t3), (4, .loc 4 0), (9, .val t36), (16, .val t3), (17, .val t3)], [(4, .whole t26)]⟩ (.seq (.seq .leaf (.cond .leaf .leaf)) (.join ⟨[(3, .val t3), (4, .loc 4 0), (9, .val t36), (16, .val t3), (17, .val t3)], [(4, .whole t26)]⟩ (.block (.seq .leaf (.cond .leaf .leaf))) .leaf))))) (.seq .leaf .leaf))))))
theorem l_k74 (x) : funI noU (tabT tab) noPhi Psi_k74 Try.f74 b_k74 ann_k74 (.prod t26 (.prod t108 (.prod t36 t3))) t3 x = S_ref07_mends fcIn.sh fcIs.sh x := by kernel_rfl
theorem spec_k74 : FnSpec Try.prog 74 (.prod t26 (.prod t108 (.prod t36 t3))) t3 fcMends0.sh :=
  fn_ok mixOk tabOk noU_ok noPhi_ok Psi_k74_ok Try.func74 b_k74_ok (by kernel_rfl) fun x => M.le_trans (M.le_of_eq (l_k74 x)) (sMends0 x)
noncomputable def b_k108 : Code := Try.f108.body.getD .skip
theorem b_k108_ok : Try.f108.body = some b_k108 := by kernel_rfl
noncomputable def Psi_k108 (k : Nat) : Option KC := if k = 42 then some (.sc ⟨(.prod t26 (.prod t3 (.prod t3 (.prod t3 t3)))), t4, fcFitsAt.sh, true⟩) else none
theorem Psi_k108_ok : PsiOk Try.prog noU Psi_k108 := by
  intro k c h
  unfold Psi_k108 at h
  split at h
  · cases h; subst_vars; exact ⟨spec_k42, fun _ _ => M.det_det⟩
  cases h
def ann_k108 : Ann := (.seq .leaf (.seq .leaf (.join ⟨[(9, .val t3)], []⟩ (.seq .leaf (.block (.loop ⟨[(1, .val t3), (2, .val t3), (3, .val t3), (4, .loc 4 0), (9, .val t3), (10, .val t3)], [(4, .whole t26)]⟩ (.seq (.seq .leaf (.cond .leaf .leaf)) (.join ⟨[(1, .val t3), (2, .val t3), (3, .val t3), (4, .loc 4 0), (9, .val t3), (10, .val t3)], [(4, .whole t26)]⟩ (.block (.seq .leaf (.cond .leaf .leaf))) .leaf))))) (.seq .leaf .leaf))))
theorem l_k108 (x) : funI noU (tabT tab) noPhi Psi_k108 Try.f108 b_k108 ann_k108 (.prod t26 (.prod t3 (.prod t3 t3))) t3 x = S_ref07_covers fcFitsAt.sh x := by kernel_rfl
theorem spec_k108 : FnSpec Try.prog 108 (.prod t26 (.prod t3 (.prod t3 t3))) t3 fcCovers.sh :=
  fn_ok mixOk tabOk noU_ok noPhi_ok Psi_k108_ok Try.func108 b_k108_ok (by kernel_rfl) fun x => M.le_trans (M.le_of_eq (l_k108 x)) (sCovers x)
noncomputable def b_k75 : Code := Try.f75.body.getD .skip
theorem b_k75_ok : Try.f75.body = some b_k75 := by kernel_rfl
noncomputable def Psi_k75 (k : Nat) : Option KC := if k = 18 then some (.sc ⟨(.prod t36 t3), t4, fcIn.sh, true⟩) else if k = 68 then some (.sc ⟨(.prod t26 t3), t36, fcAll.sh, true⟩) else if k = 108 then some (.sc ⟨(.prod t26 (.prod t3 (.prod t3 t3))), t3, fcCovers.sh, true⟩) else none
theorem Psi_k75_ok : PsiOk Try.prog noU Psi_k75 := by
  intro k c h
  unfold Psi_k75 at h
  split at h
  · cases h; subst_vars; exact ⟨spec_k18, fun _ _ => M.det_det⟩
  split at h
  · cases h; subst_vars; exact ⟨spec_k68, fun _ _ => M.det_det⟩
  split at h
  · cases h; subst_vars; exact ⟨spec_k108, fun _ _ => M.det_det⟩
  cases h
def ann_k75 : Ann := (.seq .leaf (.seq .leaf (.join ⟨[(5, .own 5)], [(5, .arr t36)]⟩ (.seq .leaf (.block (.loop ⟨[(1, .val t3), (2, .loc 2 0), (5, .own 5), (6, .val t3)], [(2, .whole t26), (5, .arr t36)]⟩ (.seq (.seq .leaf (.cond .leaf .leaf)) (.join ⟨[(1, .val t3), (2, .loc 2 0), (5, .own 5), (6, .val t3)], [(2, .whole t26), (5, .arr t36)]⟩ (.block (.seq .leaf (.seq .leaf (.join ⟨[(1, .val t3), (2, .loc 2 0), (5, .own 5), (6, .val t3), (8, .own 8)], [(2, .whole t26), (5, .arr t36), (8, .arr t3)]⟩ (.seq .leaf (.block (.loop ⟨[(1, .val t3), (2, .loc 2 0), (5, .own 5), (6, .val t3), (7, .val t36), (8, .own 8), (9, .val t3)], [(2, .whole t26), (5, .arr t36), (8, .arr t3)]⟩ (.seq (.seq .leaf (.cond .leaf .leaf)) (.join ⟨[(1, .val t3), (2, .loc 2 0), (5, .own 5), (6, .val t3), (7, .val t36), (8, .own 8), (9, .val t3)], [(2, .whole t26), (5, .arr t36), (8, .arr t3)]⟩ (.block (.seq .leaf (.seq .leaf (.cond .leaf .leaf)))) .leaf))))) .leaf)))) .leaf))))) (.seq .leaf .leaf))))
theorem l_k75 (x) : funI noU (tabT tab) noPhi Psi_k75 Try.f75 b_k75 ann_k75 (.prod t26 t3) t108 x = S_ref07_cases fcIn.sh fcAll.sh fcCovers.sh x := by kernel_rfl
theorem spec_k75 : FnSpec Try.prog 75 (.prod t26 t3) t108 fcCases.sh :=
  fn_ok mixOk tabOk noU_ok noPhi_ok Psi_k75_ok Try.func75 b_k75_ok (by kernel_rfl) fun x => M.le_trans (M.le_of_eq (l_k75 x)) (sCases x)
noncomputable def b_k37 : Code := Try.f37.body.getD .skip
theorem b_k37_ok : Try.f37.body = some b_k37 := by kernel_rfl
noncomputable def Psi_k37 (k : Nat) : Option KC := if k = 62 then some (.sc ⟨(.prod t26 t3), t4, fcIsMake.sh, true⟩) else if k = 67 then some (.sc ⟨(.prod t26 t4), t33, fcKnown0.sh, true⟩) else if k = 73 then some (.sc ⟨(.prod t26 t36), t4, fcIsList.sh, true⟩) else if k = 74 then some (.sc ⟨(.prod t26 (.prod t108 (.prod t36 t3))), t3, fcMends0.sh, true⟩) else if k = 75 then some (.sc ⟨(.prod t26 t3), t108, fcCases.sh, true⟩) else none
theorem Psi_k37_ok : PsiOk Try.prog noU Psi_k37 := by
  intro k c h
  unfold Psi_k37 at h
  split at h
  · cases h; subst_vars; exact ⟨spec_k62, fun _ _ => M.det_det⟩
  split at h
  · cases h; subst_vars; exact ⟨spec_k67, fun _ _ => M.det_det⟩
  split at h
  · cases h; subst_vars; exact ⟨spec_k73, fun _ _ => M.det_det⟩
  split at h
  · cases h; subst_vars; exact ⟨spec_k74, fun _ _ => M.det_det⟩
  split at h
  · cases h; subst_vars; exact ⟨spec_k75, fun _ _ => M.det_det⟩
  cases h
def ann_k37 : Ann := (.seq .leaf (.seq (.seq .leaf (.seq .leaf (.cond (.seq .leaf .leaf) .leaf))) (.seq .leaf .leaf)))
theorem l_k37 (x) : funI noU (tabT tab) noPhi Psi_k37 Try.f37 b_k37 ann_k37 (.prod t26 (.prod t36 t3)) (.prod t3 t33) x = S_ref07_Mends fcIsMake.sh fcKnown0.sh fcIsList.sh fcMends0.sh fcCases.sh x := by kernel_rfl
theorem spec_k37 : FnSpec Try.prog 37 (.prod t26 (.prod t36 t3)) (.prod t3 t33) fcMends.sh :=
  fn_ok mixOk tabOk noU_ok noPhi_ok Psi_k37_ok Try.func37 b_k37_ok (by kernel_rfl) fun x => M.le_trans (M.le_of_eq (l_k37 x)) (sMends x)
noncomputable def b_k53 : Code := Try.f53.body.getD .skip
theorem b_k53_ok : Try.f53.body = some b_k53 := by kernel_rfl
noncomputable def Psi_k53 (k : Nat) : Option KC := if k = 67 then some (.sc ⟨(.prod t26 t4), t33, fcKnown0.sh, true⟩) else none
theorem Psi_k53_ok : PsiOk Try.prog noU Psi_k53 := by
  intro k c h
  unfold Psi_k53 at h
  split at h
  · cases h; subst_vars; exact ⟨spec_k67, fun _ _ => M.det_det⟩
  cases h
def ann_k53 : Ann := (.seq .leaf (.seq .leaf .leaf))
theorem l_k53 (x) : funI noU (tabT tab) noPhi Psi_k53 Try.f53 b_k53 ann_k53 t26 t33 x = S_ref07_Known fcKnown0.sh x := by kernel_rfl
theorem spec_k53 : FnSpec Try.prog 53 t26 t33 fcKnown.sh :=
  fn_ok mixOk tabOk noU_ok noPhi_ok Psi_k53_ok Try.func53 b_k53_ok (by kernel_rfl) fun x => M.le_trans (M.le_of_eq (l_k53 x)) (sKnown x)
noncomputable def b_k72 : Code := Try.f72.body.getD .skip
theorem b_k72_ok : Try.f72.body = some b_k72 := by kernel_rfl
noncomputable def Psi_k72 (k : Nat) : Option KC := if k = 74 then some (.sc ⟨(.prod t26 (.prod t108 (.prod t36 t3))), t3, fcMends0.sh, true⟩) else if k = 75 then some (.sc ⟨(.prod t26 t3), t108, fcCases.sh, true⟩) else none
theorem Psi_k72_ok : PsiOk Try.prog noU Psi_k72 := by
  intro k c h
  unfold Psi_k72 at h
  split at h
  · cases h; subst_vars; exact ⟨spec_k74, fun _ _ => M.det_det⟩
  split at h
  · cases h; subst_vars; exact ⟨spec_k75, fun _ _ => M.det_det⟩
  cases h
def ann_k72 : Ann := (.seq .leaf (.seq .leaf (.join ⟨[(1, .loc 1 0), (3, .own 3)], [(1, .whole t26), (3, .arr t108)]⟩ (.seq .leaf (.block (.loop ⟨[(1, .loc 1 0), (3, .own 3), (4, .val t3)], [(1, .whole t26), (3, .arr t108)]⟩ (.seq (.seq .leaf (.cond .leaf .leaf)) (.seq (.block .leaf) .leaf))))) (.seq .leaf (.join ⟨[(5, .own 5)], [(5, .arr t36)]⟩ (.seq .leaf (.block (.loop ⟨[(1, .loc 1 0), (3, .own 3), (5, .own 5), (6, .val t3)], [(1, .whole t26), (3, .arr t108), (5, .arr t36)]⟩ (.seq (.seq .leaf (.cond .leaf .leaf)) (.join ⟨[(1, .loc 1 0), (3, .own 3), (5, .own 5), (6, .val t3)], [(1, .whole t26), (3, .arr t108), (5, .arr t36)]⟩ (.block (.seq .leaf (.join ⟨[(1, .loc 1 0), (3, .own 3), (5, .own 5), (6, .val t3), (7, .own 7)], [(1, .whole t26), (3, .arr t108), (5, .arr t36), (7, .arr t3)]⟩ (.seq .leaf (.block (.loop ⟨[(1, .loc 1 0), (3, .own 3), (5, .own 5), (6, .val t3), (7, .own 7), (8, .val t3)], [(1, .whole t26), (3, .arr t108), (5, .arr t36), (7, .arr t3)]⟩ (.seq (.seq .leaf (.cond .leaf .leaf)) (.join ⟨[(1, .loc 1 0), (3, .own 3), (5, .own 5), (6, .val t3), (7, .own 7), (8, .val t3)], [(1, .whole t26), (3, .arr t108), (5, .arr t36), (7, .arr t3)]⟩ (.block (.seq .leaf (.cond .leaf .leaf))) .leaf))))) (.seq (.seq .leaf (.cond .leaf .leaf)) (.seq .leaf (.join ⟨[(1, .loc 1 0), (3, .own 3), (5, .own 5), (6, .val t3), (7, .own 7), (9, .val t4)], [(1, .whole t26), (3, .arr t108), (5, .arr t36), (7, .arr t3)]⟩ (.seq .leaf (.block (.loop ⟨[(1, .loc 1 0), (3, .own 3), (5, .own 5), (6, .val t3), (7, .own 7), (9, .val t4), (10, .val t3)], [(1, .whole t26), (3, .arr t108), (5, .arr t36), (7, .arr t3)]⟩ (.seq (.seq .leaf (.cond .leaf .leaf)) (.seq (.block .leaf) .leaf))))) (.seq (.seq .leaf (.cond .leaf .leaf)) (.join ⟨[(1, .loc 1 0), (3, .own 3), (5, .own 5), (6, .val t3), (7, .own 7)], [(1, .whole t26), (3, .arr t108), (5, .arr t36), (7, .arr t3)]⟩ (.seq .leaf (.cond .leaf .leaf)) .leaf)))))))) .leaf))))) (.seq .leaf .leaf))))))
theorem l_k72 (x) : funI noU (tabT tab) noPhi Psi_k72 Try.f72 b_k72 ann_k72 t26 t108 x = S_ref07_lists fcMends0.sh fcCases.sh x := by kernel_rfl
theorem spec_k72 : FnSpec Try.prog 72 t26 t108 fcLists.sh :=
  fn_ok mixOk tabOk noU_ok noPhi_ok Psi_k72_ok Try.func72 b_k72_ok (by kernel_rfl) fun x => M.le_trans (M.le_of_eq (l_k72 x)) (sLists x)
noncomputable def b_k32 : Code := Try.f32.body.getD .skip
theorem b_k32_ok : Try.f32.body = some b_k32 := by kernel_rfl
noncomputable def Psi_k32 (k : Nat) : Option KC := if k = 53 then some (.sc ⟨t26, t33, fcKnown.sh, true⟩) else if k = 72 then some (.sc ⟨t26, t108, fcLists.sh, true⟩) else none
theorem Psi_k32_ok : PsiOk Try.prog noU Psi_k32 := by
  intro k c h
  unfold Psi_k32 at h
  split at h
  · cases h; subst_vars; exact ⟨spec_k53, fun _ _ => M.det_det⟩
  split at h
  · cases h; subst_vars; exact ⟨spec_k72, fun _ _ => M.det_det⟩
  cases h
def ann_k32 : Ann := (.seq .leaf (.seq (.seq .leaf (.seq .leaf (.cond (.seq .leaf .leaf) .leaf))) (.seq .leaf (.seq (.seq .leaf (.cond (.seq .leaf .leaf) .leaf)) (.seq .leaf .leaf)))))
theorem l_k32 (x) : funI noU (tabT tab) noPhi Psi_k32 Try.f32 b_k32 ann_k32 t26 (.prod t3 t33) x = S_ref07_Fewest fcKnown.sh fcLists.sh x := by kernel_rfl
theorem spec_k32 : FnSpec Try.prog 32 t26 (.prod t3 t33) fcFewest.sh :=
  fn_ok mixOk tabOk noU_ok noPhi_ok Psi_k32_ok Try.func32 b_k32_ok (by kernel_rfl) fun x => M.le_trans (M.le_of_eq (l_k32 x)) (sFewest x)
noncomputable def b_k33 : Code := Try.f33.body.getD .skip
theorem b_k33_ok : Try.f33.body = some b_k33 := by kernel_rfl
noncomputable def Psi_k33 (k : Nat) : Option KC := if k = 18 then some (.sc ⟨(.prod t36 t3), t4, fcIn.sh, true⟩) else if k = 32 then some (.sc ⟨t26, (.prod t3 t33), fcFewest.sh, true⟩) else if k = 72 then some (.sc ⟨t26, t108, fcLists.sh, true⟩) else none
theorem Psi_k33_ok : PsiOk Try.prog noU Psi_k33 := by
  intro k c h
  unfold Psi_k33 at h
  split at h
  · cases h; subst_vars; exact ⟨spec_k18, fun _ _ => M.det_det⟩
  split at h
  · cases h; subst_vars; exact ⟨spec_k32, fun _ _ => M.det_det⟩
  split at h
  · cases h; subst_vars; exact ⟨spec_k72, fun _ _ => M.det_det⟩
  cases h
def ann_k33 : Ann := (.seq .leaf (.seq (.seq .leaf (.seq .leaf (.cond (.seq .leaf .leaf) .leaf))) (.seq .leaf (.seq .leaf (.join ⟨[(7, .own 7)], [(7, .arr t3)]⟩ (.seq .leaf (.block (.loop ⟨[(1, .loc 1 0), (6, .val t108), (7, .own 7), (8, .val t3)], [(1, .whole t26), (7, .arr t3)]⟩ (.seq (.seq .leaf (.cond .leaf .leaf)) (.join ⟨[(1, .loc 1 0), (6, .val t108), (7, .own 7), (8, .val t3)], [(1, .whole t26), (7, .arr t3)]⟩ (.block (.seq .leaf (.join ⟨[(1, .loc 1 0), (6, .val t108), (7, .own 7), (8, .val t3), (9, .val t3)], [(1, .whole t26), (7, .arr t3)]⟩ (.seq .leaf (.block (.loop ⟨[(1, .loc 1 0), (6, .val t108), (7, .own 7), (8, .val t3), (9, .val t3), (10, .val t3)], [(1, .whole t26), (7, .arr t3)]⟩ (.seq (.seq .leaf (.cond .leaf .leaf)) (.join ⟨[(1, .loc 1 0), (6, .val t108), (7, .own 7), (8, .val t3), (9, .val t3), (10, .val t3)], [(1, .whole t26), (7, .arr t3)]⟩ (.block (.seq .leaf (.cond .leaf .leaf))) .leaf))))) (.seq .leaf (.cond .leaf .leaf))))) .leaf))))) (.seq .leaf .leaf))))))
theorem l_k33 (x) : funI noU (tabT tab) noPhi Psi_k33 Try.f33 b_k33 ann_k33 t26 (.prod t36 t33) x = S_ref07_Needed fcIn.sh fcFewest.sh fcLists.sh x := by kernel_rfl
theorem spec_k33 : FnSpec Try.prog 33 t26 (.prod t36 t33) fcNeeded.sh :=
  fn_ok mixOk tabOk noU_ok noPhi_ok Psi_k33_ok Try.func33 b_k33_ok (by kernel_rfl) fun x => M.le_trans (M.le_of_eq (l_k33 x)) (sNeeded x)
noncomputable def b_k35 : Code := Try.f35.body.getD .skip
theorem b_k35_ok : Try.f35.body = some b_k35 := by kernel_rfl
noncomputable def Psi_k35 (k : Nat) : Option KC := if k = 73 then some (.sc ⟨(.prod t26 t36), t4, fcIsList.sh, true⟩) else if k = 74 then some (.sc ⟨(.prod t26 (.prod t108 (.prod t36 t3))), t3, fcMends0.sh, true⟩) else if k = 75 then some (.sc ⟨(.prod t26 t3), t108, fcCases.sh, true⟩) else none
theorem Psi_k35_ok : PsiOk Try.prog noU Psi_k35 := by
  intro k c h
  unfold Psi_k35 at h
  split at h
  · cases h; subst_vars; exact ⟨spec_k73, fun _ _ => M.det_det⟩
  split at h
  · cases h; subst_vars; exact ⟨spec_k74, fun _ _ => M.det_det⟩
  split at h
  · cases h; subst_vars; exact ⟨spec_k75, fun _ _ => M.det_det⟩
  cases h
def ann_k35 : Ann := (.seq .leaf (.seq (.seq .leaf (.cond (.seq .leaf .leaf) .leaf)) (.join ⟨[], []⟩ (.seq .leaf (.block (.loop ⟨[(1, .val t36), (2, .loc 2 0), (5, .val t3)], [(2, .whole t26)]⟩ (.seq (.seq .leaf (.cond .leaf .leaf)) (.seq (.block (.seq .leaf (.cond (.seq .leaf .leaf) .leaf))) .leaf))))) (.seq .leaf .leaf))))
theorem l_k35 (x) : funI noU (tabT tab) noPhi Psi_k35 Try.f35 b_k35 ann_k35 (.prod t26 t36) t4 x = S_ref07_MendsAll fcIsList.sh fcMends0.sh fcCases.sh x := by kernel_rfl
theorem spec_k35 : FnSpec Try.prog 35 (.prod t26 t36) t4 fcMendsAll.sh :=
  fn_ok mixOk tabOk noU_ok noPhi_ok Psi_k35_ok Try.func35 b_k35_ok (by kernel_rfl) fun x => M.le_trans (M.le_of_eq (l_k35 x)) (sMendsAll x)
noncomputable def b_kcopy : Code := Try.f17.body.getD .skip
theorem b_kcopy_ok : Try.f17.body = some b_kcopy := by kernel_rfl
noncomputable def Psi_kcopy (k : Nat) : Option KC := none
theorem Psi_kcopy_ok : PsiOk Try.prog noU Psi_kcopy := by
  intro k c h
  unfold Psi_kcopy at h
  cases h
noncomputable def ioc_copy : IOC := ⟨⟨[(0, .val t26)], []⟩, ⟨[(0, .own 8), (1, .own 59), (2, .val t3), (3, .own 12)], [(8, .arr t30), (12, .arr t54), (59, .arr t74)]⟩, [some 4], 1, shCopyIO⟩
def ann_kcopy : Ann := (.seq .leaf (.seq .leaf (.seq .leaf (.seq .leaf (.join ⟨[(2, .loc 2 0), (3, .loc 3 0)], [(2, .cells t26 [.nils, .nils, .val t3, .nils]), (3, .cells t26 [.own 8, .own 59, .val t3, .own 12]), (8, .arr t30), (12, .arr t54), (59, .arr t74)]⟩ (.seq .leaf (.block (.loop ⟨[(1, .loc 1 0), (2, .loc 2 0), (3, .loc 3 0), (4, .val t3)], [(1, .whole t26), (2, .cells t26 [.nils, .nils, .val t3, .nils]), (3, .cells t26 [.own 8, .own 59, .val t3, .own 12]), (8, .arr t30), (12, .arr t54), (59, .arr t74)]⟩ (.seq (.seq .leaf (.cond .leaf .leaf)) (.join ⟨[(1, .loc 1 0), (2, .loc 2 0), (3, .loc 3 0), (4, .val t3)], [(1, .whole t26), (2, .cells t26 [.nils, .nils, .val t3, .nils]), (3, .cells t26 [.own 8, .own 59, .val t3, .own 12]), (8, .arr t30), (12, .arr t54), (59, .arr t74)]⟩ (.block (.seq .leaf (.join ⟨[(1, .loc 1 0), (2, .loc 2 0), (3, .loc 3 0), (4, .val t3), (5, .loc 5 0)], [(1, .whole t26), (2, .cells t26 [.nils, .nils, .val t3, .nils]), (3, .cells t26 [.own 8, .own 59, .val t3, .own 12]), (5, .cells t74 [.own 26]), (8, .arr t30), (12, .arr t54), (26, .arr t95), (59, .arr t74)]⟩ (.seq .leaf (.block (.loop ⟨[(1, .loc 1 0), (2, .loc 2 0), (3, .loc 3 0), (4, .val t3), (5, .loc 5 0), (6, .val t3)], [(1, .whole t26), (2, .cells t26 [.nils, .nils, .val t3, .nils]), (3, .cells t26 [.own 8, .own 59, .val t3, .own 12]), (5, .cells t74 [.own 26]), (8, .arr t30), (12, .arr t54), (26, .arr t95), (59, .arr t74)]⟩ (.seq (.seq .leaf (.cond .leaf .leaf)) (.seq (.block .leaf) .leaf))))) .leaf))) .leaf))))) (.seq .leaf .leaf))))))
theorem l_kcopy (x) : funIO noU (tabT tab) noPhi Psi_kcopy Try.f17 b_kcopy ann_kcopy ⟨[(0, .val t26)], []⟩ ⟨[(0, .own 8), (1, .own 59), (2, .val t3), (3, .own 12)], [(8, .arr t30), (12, .arr t54), (59, .arr t74)]⟩ [some 4] x = S_ref07_CopyIO  x := by kernel_rfl
theorem io_copy : IoSpec Try.prog noU 17 ioc_copy :=
  fnIO_ok mixOk tabOk noPhi_ok Psi_kcopy_ok Try.func17 b_kcopy_ok (by kernel_rfl) fun x => M.le_trans (M.le_of_eq (l_kcopy x)) (sCopyIO x)
end Go.Fer.Sk
namespace Go.Fer.Sk
open Go.Proofs
open M (Step)
set_option maxRecDepth 100000
set_option linter.unusedVariables false
set_option linter.unusedSimpArgs false
noncomputable def b_k86 : Code := Try.f86.body.getD .skip
theorem b_k86_ok : Try.f86.body = some b_k86 := by kernel_rfl
noncomputable def Psi_k86 (k : Nat) : Option KC := none
theorem Psi_k86_ok : PsiOk Try.prog noU Psi_k86 := by
  intro k c h
  unfold Psi_k86 at h
  cases h
def ann_k86 : Ann := (.seq .leaf (.join ⟨[(0, .val t131)], []⟩ .leaf (.join ⟨[(0, .val t131)], []⟩ .leaf (.join ⟨[(0, .val t131)], []⟩ .leaf (.join ⟨[(0, .val t131)], []⟩ .leaf (.join ⟨[(0, .val t131)], []⟩ .leaf (.join ⟨[(0, .val t131)], []⟩ .leaf (.seq .leaf .leaf))))))))
theorem l_k86 (x) : funI noU (tabT tab) noPhi Psi_k86 Try.f86 b_k86 ann_k86 t131 t3 x = S_math_bits_OnesCount64  x := by kernel_rfl
theorem spec_k86 : FnSpec Try.prog 86 t131 t3 fcOnes.sh :=
  fn_ok mixOk tabOk noU_ok noPhi_ok Psi_k86_ok Try.func86 b_k86_ok (by kernel_rfl) fun x => M.le_trans (M.le_of_eq (l_k86 x)) (sOnes64 x)
noncomputable def b_k57 : Code := Try.f57.body.getD .skip
theorem b_k57_ok : Try.f57.body = some b_k57 := by kernel_rfl
noncomputable def Psi_k57 (k : Nat) : Option KC := if k = 86 then some (.sc ⟨t131, t3, fcOnes.sh, true⟩) else none
theorem Psi_k57_ok : PsiOk Try.prog noU Psi_k57 := by
  intro k c h
  unfold Psi_k57 at h
  split at h
  · cases h; subst_vars; exact ⟨spec_k86, fun _ _ => M.det_det⟩
  cases h
def ann_k57 : Ann := (.seq .leaf (.seq (.cond (.seq .leaf .leaf) .leaf) (.seq .leaf .leaf)))
theorem l_k57 (x) : funI noU (tabT tab) noPhi Psi_k57 Try.f57 b_k57 ann_k57 t92 t3 x = S_math_bits_OnesCount (fun _ => M.fail) fcOnes.sh x := by kernel_rfl
theorem spec_k57 : FnSpec Try.prog 57 t92 t3 fcOnes.sh :=
  fn_ok mixOk tabOk noU_ok noPhi_ok Psi_k57_ok Try.func57 b_k57_ok (by kernel_rfl) fun x => M.le_trans (M.le_of_eq (l_k57 x)) (sOnes (fun _ => M.fail) x)
noncomputable def b_k79 : Code := Try.f79.body.getD .skip
theorem b_k79_ok : Try.f79.body = some b_k79 := by kernel_rfl
noncomputable def Psi_k79 (k : Nat) : Option KC := none
theorem Psi_k79_ok : PsiOk Try.prog noU Psi_k79 := by
  intro k c h
  unfold Psi_k79 at h
  cases h
def ann_k79 : Ann := (.seq .leaf (.seq .leaf .leaf))
theorem l_k79 (x) : funI noU (tabT tab) noPhi Psi_k79 Try.f79 b_k79 ann_k79 (.prod t3 (.prod t3 t3)) t4 x = S_parts_within  x := by kernel_rfl
theorem spec_k79 : FnSpec Try.prog 79 (.prod t3 (.prod t3 t3)) t4 fcWithin.sh :=
  fn_ok mixOk tabOk noU_ok noPhi_ok Psi_k79_ok Try.func79 b_k79_ok (by kernel_rfl) fun x => M.le_trans (M.le_of_eq (l_k79 x)) (sPWithin x)
noncomputable def b_k93 : Code := Try.f93.body.getD .skip
theorem b_k93_ok : Try.f93.body = some b_k93 := by kernel_rfl
noncomputable def Psi_k93 (k : Nat) : Option KC := if k = 79 then some (.sc ⟨(.prod t3 (.prod t3 t3)), t4, fcWithin.sh, true⟩) else none
theorem Psi_k93_ok : PsiOk Try.prog noU Psi_k93 := by
  intro k c h
  unfold Psi_k93 at h
  split at h
  · cases h; subst_vars; exact ⟨spec_k79, fun _ _ => M.det_det⟩
  cases h
def ann_k93 : Ann := (.seq .leaf (.seq .leaf .leaf))
theorem l_k93 (x) : funI noU (tabT tab) noPhi Psi_k93 Try.f93 b_k93 ann_k93 t3 t4 x = S_parts_isMark fcWithin.sh x := by kernel_rfl
theorem spec_k93 : FnSpec Try.prog 93 t3 t4 fcIsMark.sh :=
  fn_ok mixOk tabOk noU_ok noPhi_ok Psi_k93_ok Try.func93 b_k93_ok (by kernel_rfl) fun x => M.le_trans (M.le_of_eq (l_k93 x)) (sPIsMark x)
noncomputable def b_k94 : Code := Try.f94.body.getD .skip
theorem b_k94_ok : Try.f94.body = some b_k94 := by kernel_rfl
noncomputable def Psi_k94 (k : Nat) : Option KC := if k = 79 then some (.sc ⟨(.prod t3 (.prod t3 t3)), t4, fcWithin.sh, true⟩) else none
theorem Psi_k94_ok : PsiOk Try.prog noU Psi_k94 := by
  intro k c h
  unfold Psi_k94 at h
  split at h
  · cases h; subst_vars; exact ⟨spec_k79, fun _ _ => M.det_det⟩
  cases h
def ann_k94 : Ann := (.seq .leaf (.seq .leaf .leaf))
theorem l_k94 (x) : funI noU (tabT tab) noPhi Psi_k94 Try.f94 b_k94 ann_k94 t28 t4 x = S_parts_isLength fcWithin.sh x := by kernel_rfl
theorem spec_k94 : FnSpec Try.prog 94 t28 t4 fcIsLength.sh :=
  fn_ok mixOk tabOk noU_ok noPhi_ok Psi_k94_ok Try.func94 b_k94_ok (by kernel_rfl) fun x => M.le_trans (M.le_of_eq (l_k94 x)) (sPIsLength x)
noncomputable def b_k92 : Code := Try.f92.body.getD .skip
theorem b_k92_ok : Try.f92.body = some b_k92 := by kernel_rfl
noncomputable def Psi_k92 (k : Nat) : Option KC := if k = 93 then some (.sc ⟨t3, t4, fcIsMark.sh, true⟩) else if k = 94 then some (.sc ⟨t28, t4, fcIsLength.sh, true⟩) else none
theorem Psi_k92_ok : PsiOk Try.prog noU Psi_k92 := by
  intro k c h
  unfold Psi_k92 at h
  split at h
  · cases h; subst_vars; exact ⟨spec_k93, fun _ _ => M.det_det⟩
  split at h
  · cases h; subst_vars; exact ⟨spec_k94, fun _ _ => M.det_det⟩
  cases h
def ann_k92 : Ann := (.seq .leaf (.seq .leaf .leaf))
theorem l_k92 (x) : funI noU (tabT tab) noPhi Psi_k92 Try.f92 b_k92 ann_k92 t30 t4 x = S_parts_isWorkshop_c1 fcIsMark.sh fcIsLength.sh x := by kernel_rfl
theorem spec_k92 : FnSpec Try.prog 92 t30 t4 fcSpareC.sh :=
  fn_ok mixOk tabOk noU_ok noPhi_ok Psi_k92_ok Try.func92 b_k92_ok (by kernel_rfl) fun x => M.le_trans (M.le_of_eq (l_k92 x)) (sPIsW1 x)
noncomputable def b_k76 : Code := Try.f76.body.getD .skip
theorem b_k76_ok : Try.f76.body = some b_k76 := by kernel_rfl
noncomputable def Psi_k76 (k : Nat) : Option KC := none
theorem Psi_k76_ok : PsiOk Try.prog noU Psi_k76 := by
  intro k c h
  unfold Psi_k76 at h
  cases h
def ann_k76 : Ann := (.seq .leaf (.join ⟨[], []⟩ (.seq .leaf (.block (.loop ⟨[(0, .val t36), (3, .val t3)], []⟩ (.seq (.seq .leaf (.cond .leaf .leaf)) (.seq (.block (.seq .leaf (.cond (.seq .leaf .leaf) .leaf))) .leaf))))) (.seq .leaf .leaf)))
theorem l_k76 (x) : funI noU (tabT tab) noPhi Psi_k76 Try.f76 b_k76 ann_k76 t36 t4 x = S_parts_ascending  x := by kernel_rfl
theorem spec_k76 : FnSpec Try.prog 76 t36 t4 fcAscending.sh :=
  fn_ok mixOk tabOk noU_ok noPhi_ok Psi_k76_ok Try.func76 b_k76_ok (by kernel_rfl) fun x => M.le_trans (M.le_of_eq (l_k76 x)) (sPAscending x)
noncomputable def b_k124 : Code := Try.f124.body.getD .skip
theorem b_k124_ok : Try.f124.body = some b_k124 := by kernel_rfl
noncomputable def Psi_k124 (k : Nat) : Option KC := none
theorem Psi_k124_ok : PsiOk Try.prog noU Psi_k124 := by
  intro k c h
  unfold Psi_k124 at h
  cases h
def ann_k124 : Ann := (.seq .leaf (.join ⟨[], []⟩ (.seq .leaf (.block (.loop ⟨[(0, .val t36), (1, .val t119), (7, .val t3), (8, .val t3)], []⟩ (.seq .leaf (.seq (.cond .leaf .leaf) (.seq (.block (.seq .leaf (.seq .leaf (.cond (.seq .leaf .leaf) .leaf)))) .leaf)))))) (.seq .leaf .leaf)))
theorem l_k124 (x) : funI noU (tabT tab) noPhi Psi_k124 Try.f124 b_k124 ann_k124 (.prod t36 t119) t3 x = S_slices_IndexFunc_int_int  x := by kernel_rfl
theorem spec_k124 : FnSpec Try.prog 124 (.prod t36 t119) t3 (fcIndexFunc t3).sh :=
  fn_ok mixOk tabOk noU_ok noPhi_ok Psi_k124_ok Try.func124 b_k124_ok (by kernel_rfl) fun x => M.le_trans (M.le_of_eq (l_k124 x)) (sIndexFunc t3 x)
noncomputable def b_k109 : Code := Try.f109.body.getD .skip
theorem b_k109_ok : Try.f109.body = some b_k109 := by kernel_rfl
noncomputable def Psi_k109 (k : Nat) : Option KC := if k = 124 then some (.sc ⟨(.prod t36 t119), t3, (fcIndexFunc t3).sh, true⟩) else none
theorem Psi_k109_ok : PsiOk Try.prog noU Psi_k109 := by
  intro k c h
  unfold Psi_k109 at h
  split at h
  · cases h; subst_vars; exact ⟨spec_k124, fun _ _ => M.det_det⟩
  cases h
def ann_k109 : Ann := (.seq .leaf (.seq .leaf .leaf))
theorem l_k109 (x) : funI noU (tabT tab) noPhi Psi_k109 Try.f109 b_k109 ann_k109 (.prod t36 t119) t4 x = S_slices_ContainsFunc_int_int (fcIndexFunc t3).sh x := by kernel_rfl
theorem spec_k109 : FnSpec Try.prog 109 (.prod t36 t119) t4 (fcContainsFunc t3).sh :=
  fn_ok mixOk tabOk noU_ok noPhi_ok Psi_k109_ok Try.func109 b_k109_ok (by kernel_rfl) fun x => M.le_trans (M.le_of_eq (l_k109 x)) (sContainsFunc t3 x)
noncomputable def b_k110 : Code := Try.f110.body.getD .skip
theorem b_k110_ok : Try.f110.body = some b_k110 := by kernel_rfl
noncomputable def Psi_k110 (k : Nat) : Option KC := none
theorem Psi_k110_ok : PsiOk Try.prog noU Psi_k110 := by
  intro k c h
  unfold Psi_k110 at h
  cases h
def ann_k110 : Ann := (.seq .leaf (.seq .leaf .leaf))
theorem l_k110 (x) : codeI noU (tabT tab) noPhi Psi_k110 ann_k110 b_k110 (capsSt 1 (parSt (.prod t3 (.ptr t119)) x)) (retI (tabT tab) Try.f110.results.toList t4) = S_parts_all_int__c1  x := by kernel_rfl
theorem spec_k110 : FnSpec Try.prog 110 (.prod t3 (.ptr t119)) t4 (fcAllC1 t3).sh :=
  fnC_ok (n := 1) mixOk tabOk noU_ok noPhi_ok Psi_k110_ok Try.func110 b_k110_ok (by kernel_rfl) fun x => M.le_req (fun h => by obtain ⟨f, hf, _⟩ := h; exact caps_pre ⟨trivial, isSome_of hf⟩) (M.le_trans (M.le_of_eq (l_k110 x)) (sAllC1 t3 x))
noncomputable def b_k77 : Code := Try.f77.body.getD .skip
theorem b_k77_ok : Try.f77.body = some b_k77 := by kernel_rfl
noncomputable def U_k77 : FnTab := ⟨fun k => none, fun k => if k = 110 then some ⟨[t3], [t119], t4, (fcAllC1 t3).sh⟩ else none⟩
theorem U_k77_ok : FnTabOk Try.prog U_k77 where
  fnv := by
    intro k v h
    simp only [U_k77] at h
    cases h
  clv := by
    intro k v h
    simp only [U_k77] at h
    split at h
    · cases h; subst_vars; exact ⟨rfl, spec_k110⟩
    cases h
noncomputable def Psi_k77 (k : Nat) : Option KC := if k = 109 then some (.sc ⟨(.prod t36 t119), t4, (fcContainsFunc t3).sh, true⟩) else none
theorem Psi_k77_ok : PsiOk Try.prog U_k77 Psi_k77 := by
  intro k c h
  unfold Psi_k77 at h
  split at h
  · cases h; subst_vars; exact ⟨spec_k109, fun _ _ => M.det_det⟩
  cases h
def ann_k77 : Ann := (.seq .leaf (.seq .leaf .leaf))
theorem l_k77 (x) : funI U_k77 (tabT tab) noPhi Psi_k77 Try.f77 b_k77 ann_k77 (.prod t36 t119) t4 x = S_parts_all_int (fcContainsFunc t3).sh (fcAllC1 t3).sh x := by kernel_rfl
theorem spec_k77 : FnSpec Try.prog 77 (.prod t36 t119) t4 (fcAllF t3).sh :=
  fn_ok mixOk tabOk U_k77_ok noPhi_ok Psi_k77_ok Try.func77 b_k77_ok (by kernel_rfl) fun x => M.le_trans (M.le_of_eq (l_k77 x)) (sAllF t3 x)
noncomputable def b_k95 : Code := Try.f95.body.getD .skip
theorem b_k95_ok : Try.f95.body = some b_k95 := by kernel_rfl
noncomputable def U_k95 : FnTab := ⟨fun k => if k = 93 then some ⟨t3, t4, fcIsMark.sh⟩ else none, fun k => none⟩
theorem U_k95_ok : FnTabOk Try.prog U_k95 where
  fnv := by
    intro k v h
    simp only [U_k95] at h
    split at h
    · cases h; subst_vars; exact spec_k93
    cases h
  clv := by
    intro k v h
    simp only [U_k95] at h
    cases h
noncomputable def Psi_k95 (k : Nat) : Option KC := if k = 76 then some (.sc ⟨t36, t4, fcAscending.sh, true⟩) else if k = 77 then some (.sc ⟨(.prod t36 t119), t4, (fcAllF t3).sh, true⟩) else if k = 93 then some (.sc ⟨t3, t4, fcIsMark.sh, true⟩) else if k = 94 then some (.sc ⟨t28, t4, fcIsLength.sh, true⟩) else none
theorem Psi_k95_ok : PsiOk Try.prog U_k95 Psi_k95 := by
  intro k c h
  unfold Psi_k95 at h
  split at h
  · cases h; subst_vars; exact ⟨spec_k76, fun _ _ => M.det_det⟩
  split at h
  · cases h; subst_vars; exact ⟨spec_k77, fun _ _ => M.det_det⟩
  split at h
  · cases h; subst_vars; exact ⟨spec_k93, fun _ _ => M.det_det⟩
  split at h
  · cases h; subst_vars; exact ⟨spec_k94, fun _ _ => M.det_det⟩
  cases h
def ann_k95 : Ann := (.seq .leaf (.seq .leaf .leaf))
theorem l_k95 (x) : funI U_k95 (tabT tab) noPhi Psi_k95 Try.f95 b_k95 ann_k95 t95 t4 x = S_parts_isWorkshop_c2 fcAscending.sh (fcAllF t3).sh fcIsMark.sh fcIsLength.sh x := by kernel_rfl
theorem spec_k95 : FnSpec Try.prog 95 t95 t4 fcIsSlot.sh :=
  fn_ok mixOk tabOk U_k95_ok noPhi_ok Psi_k95_ok Try.func95 b_k95_ok (by kernel_rfl) fun x => M.le_trans (M.le_of_eq (l_k95 x)) (sPIsW2 x)
noncomputable def b_k128 : Code := Try.f128.body.getD .skip
theorem b_k128_ok : Try.f128.body = some b_k128 := by kernel_rfl
noncomputable def Psi_k128 (k : Nat) : Option KC := none
theorem Psi_k128_ok : PsiOk Try.prog noU Psi_k128 := by
  intro k c h
  unfold Psi_k128 at h
  cases h
def ann_k128 : Ann := (.seq .leaf (.join ⟨[], []⟩ (.seq .leaf (.block (.loop ⟨[(0, .val t72), (1, .val t138), (7, .val t3), (8, .val t3)], []⟩ (.seq .leaf (.seq (.cond .leaf .leaf) (.seq (.block (.seq .leaf (.seq .leaf (.cond (.seq .leaf .leaf) .leaf)))) .leaf)))))) (.seq .leaf .leaf)))
theorem l_k128 (x) : funI noU (tabT tab) noPhi Psi_k128 Try.f128 b_k128 ann_k128 (.prod t72 t138) t3 x = S_slices_IndexFunc_api_Slot_api_Slot  x := by kernel_rfl
theorem spec_k128 : FnSpec Try.prog 128 (.prod t72 t138) t3 (fcIndexFunc t95).sh :=
  fn_ok mixOk tabOk noU_ok noPhi_ok Psi_k128_ok Try.func128 b_k128_ok (by kernel_rfl) fun x => M.le_trans (M.le_of_eq (l_k128 x)) (sIndexFunc t95 x)
noncomputable def b_k115 : Code := Try.f115.body.getD .skip
theorem b_k115_ok : Try.f115.body = some b_k115 := by kernel_rfl
noncomputable def Psi_k115 (k : Nat) : Option KC := if k = 128 then some (.sc ⟨(.prod t72 t138), t3, (fcIndexFunc t95).sh, true⟩) else none
theorem Psi_k115_ok : PsiOk Try.prog noU Psi_k115 := by
  intro k c h
  unfold Psi_k115 at h
  split at h
  · cases h; subst_vars; exact ⟨spec_k128, fun _ _ => M.det_det⟩
  cases h
def ann_k115 : Ann := (.seq .leaf (.seq .leaf .leaf))
theorem l_k115 (x) : funI noU (tabT tab) noPhi Psi_k115 Try.f115 b_k115 ann_k115 (.prod t72 t138) t4 x = S_slices_ContainsFunc_api_Slot_api_Slot (fcIndexFunc t95).sh x := by kernel_rfl
theorem spec_k115 : FnSpec Try.prog 115 (.prod t72 t138) t4 (fcContainsFunc t95).sh :=
  fn_ok mixOk tabOk noU_ok noPhi_ok Psi_k115_ok Try.func115 b_k115_ok (by kernel_rfl) fun x => M.le_trans (M.le_of_eq (l_k115 x)) (sContainsFunc t95 x)
noncomputable def b_k116 : Code := Try.f116.body.getD .skip
theorem b_k116_ok : Try.f116.body = some b_k116 := by kernel_rfl
noncomputable def Psi_k116 (k : Nat) : Option KC := none
theorem Psi_k116_ok : PsiOk Try.prog noU Psi_k116 := by
  intro k c h
  unfold Psi_k116 at h
  cases h
def ann_k116 : Ann := (.seq .leaf (.seq .leaf .leaf))
theorem l_k116 (x) : codeI noU (tabT tab) noPhi Psi_k116 ann_k116 b_k116 (capsSt 1 (parSt (.prod t95 (.ptr t138)) x)) (retI (tabT tab) Try.f116.results.toList t4) = S_parts_all_api_Slot__c1  x := by kernel_rfl
theorem spec_k116 : FnSpec Try.prog 116 (.prod t95 (.ptr t138)) t4 (fcAllC1 t95).sh :=
  fnC_ok (n := 1) mixOk tabOk noU_ok noPhi_ok Psi_k116_ok Try.func116 b_k116_ok (by kernel_rfl) fun x => M.le_req (fun h => by obtain ⟨f, hf, _⟩ := h; exact caps_pre ⟨trivial, isSome_of hf⟩) (M.le_trans (M.le_of_eq (l_k116 x)) (sAllC1 t95 x))
noncomputable def b_k97 : Code := Try.f97.body.getD .skip
theorem b_k97_ok : Try.f97.body = some b_k97 := by kernel_rfl
noncomputable def U_k97 : FnTab := ⟨fun k => none, fun k => if k = 116 then some ⟨[t95], [t138], t4, (fcAllC1 t95).sh⟩ else none⟩
theorem U_k97_ok : FnTabOk Try.prog U_k97 where
  fnv := by
    intro k v h
    simp only [U_k97] at h
    cases h
  clv := by
    intro k v h
    simp only [U_k97] at h
    split at h
    · cases h; subst_vars; exact ⟨rfl, spec_k116⟩
    cases h
noncomputable def Psi_k97 (k : Nat) : Option KC := if k = 115 then some (.sc ⟨(.prod t72 t138), t4, (fcContainsFunc t95).sh, true⟩) else none
theorem Psi_k97_ok : PsiOk Try.prog U_k97 Psi_k97 := by
  intro k c h
  unfold Psi_k97 at h
  split at h
  · cases h; subst_vars; exact ⟨spec_k115, fun _ _ => M.det_det⟩
  cases h
def ann_k97 : Ann := (.seq .leaf (.seq .leaf .leaf))
theorem l_k97 (x) : funI U_k97 (tabT tab) noPhi Psi_k97 Try.f97 b_k97 ann_k97 (.prod t72 t138) t4 x = S_parts_all_api_Slot (fcContainsFunc t95).sh (fcAllC1 t95).sh x := by kernel_rfl
theorem spec_k97 : FnSpec Try.prog 97 (.prod t72 t138) t4 (fcAllF t95).sh :=
  fn_ok mixOk tabOk U_k97_ok noPhi_ok Psi_k97_ok Try.func97 b_k97_ok (by kernel_rfl) fun x => M.le_trans (M.le_of_eq (l_k97 x)) (sAllF t95 x)
noncomputable def b_k96 : Code := Try.f96.body.getD .skip
theorem b_k96_ok : Try.f96.body = some b_k96 := by kernel_rfl
noncomputable def Psi_k96 (k : Nat) : Option KC := if k = 97 then some (.sc ⟨(.prod t72 t138), t4, (fcAllF t95).sh, true⟩) else none
theorem Psi_k96_ok : PsiOk Try.prog noU Psi_k96 := by
  intro k c h
  unfold Psi_k96 at h
  split at h
  · cases h; subst_vars; exact ⟨spec_k97, fun _ _ => M.det_det⟩
  cases h
def ann_k96 : Ann := (.seq .leaf (.seq .leaf .leaf))
theorem l_k96 (x) : codeI noU (tabT tab) noPhi Psi_k96 ann_k96 b_k96 (capsSt 1 (parSt (.prod t74 (.ptr t138)) x)) (retI (tabT tab) Try.f96.results.toList t4) = S_parts_isWorkshop_c3 (fcAllF t95).sh x := by kernel_rfl
theorem spec_k96 : FnSpec Try.prog 96 (.prod t74 (.ptr t138)) t4 fcMakeC.sh :=
  fnC_ok (n := 1) mixOk tabOk noU_ok noPhi_ok Psi_k96_ok Try.func96 b_k96_ok (by kernel_rfl) fun x => M.le_req (fun h => by obtain ⟨f, hf, _⟩ := h; exact caps_pre ⟨trivial, isSome_of hf⟩) (M.le_trans (M.le_of_eq (l_k96 x)) (sPIsW3 x))
noncomputable def b_k66 : Code := Try.f66.body.getD .skip
theorem b_k66_ok : Try.f66.body = some b_k66 := by kernel_rfl
noncomputable def Psi_k66 (k : Nat) : Option KC := if k = 79 then some (.sc ⟨(.prod t3 (.prod t3 t3)), t4, fcWithin.sh, true⟩) else none
theorem Psi_k66_ok : PsiOk Try.prog noU Psi_k66 := by
  intro k c h
  unfold Psi_k66 at h
  split at h
  · cases h; subst_vars; exact ⟨spec_k79, fun _ _ => M.det_det⟩
  cases h
def ann_k66 : Ann := (.seq .leaf (.seq .leaf .leaf))
theorem l_k66 (x) : funI noU (tabT tab) noPhi Psi_k66 Try.f66 b_k66 ann_k66 (.prod t26 t3) t4 x = S_parts_isSpare fcWithin.sh x := by kernel_rfl
theorem spec_k66 : FnSpec Try.prog 66 (.prod t26 t3) t4 fcIsSpare.sh :=
  fn_ok mixOk tabOk noU_ok noPhi_ok Psi_k66_ok Try.func66 b_k66_ok (by kernel_rfl) fun x => M.le_trans (M.le_of_eq (l_k66 x)) (sPIsSpare x)
noncomputable def b_k69 : Code := Try.f69.body.getD .skip
theorem b_k69_ok : Try.f69.body = some b_k69 := by kernel_rfl
noncomputable def Psi_k69 (k : Nat) : Option KC := if k = 79 then some (.sc ⟨(.prod t3 (.prod t3 t3)), t4, fcWithin.sh, true⟩) else none
theorem Psi_k69_ok : PsiOk Try.prog noU Psi_k69 := by
  intro k c h
  unfold Psi_k69 at h
  split at h
  · cases h; subst_vars; exact ⟨spec_k79, fun _ _ => M.det_det⟩
  cases h
def ann_k69 : Ann := (.seq .leaf (.seq .leaf .leaf))
theorem l_k69 (x) : funI noU (tabT tab) noPhi Psi_k69 Try.f69 b_k69 ann_k69 (.prod t26 (.prod t3 t3)) t4 x = S_parts_isSlot fcWithin.sh x := by kernel_rfl
theorem spec_k69 : FnSpec Try.prog 69 (.prod t26 (.prod t3 t3)) t4 fcIsSlotOf.sh :=
  fn_ok mixOk tabOk noU_ok noPhi_ok Psi_k69_ok Try.func69 b_k69_ok (by kernel_rfl) fun x => M.le_trans (M.le_of_eq (l_k69 x)) (sPIsSlot x)
noncomputable def b_k98 : Code := Try.f98.body.getD .skip
theorem b_k98_ok : Try.f98.body = some b_k98 := by kernel_rfl
noncomputable def Psi_k98 (k : Nat) : Option KC := if k = 66 then some (.sc ⟨(.prod t26 t3), t4, fcIsSpare.sh, true⟩) else if k = 69 then some (.sc ⟨(.prod t26 (.prod t3 t3)), t4, fcIsSlotOf.sh, true⟩) else if k = 79 then some (.sc ⟨(.prod t3 (.prod t3 t3)), t4, fcWithin.sh, true⟩) else none
theorem Psi_k98_ok : PsiOk Try.prog noU Psi_k98 := by
  intro k c h
  unfold Psi_k98 at h
  split at h
  · cases h; subst_vars; exact ⟨spec_k66, fun _ _ => M.det_det⟩
  split at h
  · cases h; subst_vars; exact ⟨spec_k69, fun _ _ => M.det_det⟩
  split at h
  · cases h; subst_vars; exact ⟨spec_k79, fun _ _ => M.det_det⟩
  cases h
def ann_k98 : Ann := (.seq .leaf (.seq .leaf .leaf))
theorem l_k98 (x) : codeI noU (tabT tab) noPhi Psi_k98 ann_k98 b_k98 (capsSt 1 (parSt (.prod t54 (.ptr t26)) x)) (retI (tabT tab) Try.f98.results.toList t4) = S_parts_isWorkshop_c4 fcIsSpare.sh fcIsSlotOf.sh fcWithin.sh x := by kernel_rfl
theorem spec_k98 : FnSpec Try.prog 98 (.prod t54 (.ptr t26)) t4 fcTrialC.sh :=
  fnC_ok (n := 1) mixOk tabOk noU_ok noPhi_ok Psi_k98_ok Try.func98 b_k98_ok (by kernel_rfl) fun x => M.le_req (fun h => by obtain ⟨f, hf, _⟩ := h; exact caps_pre ⟨trivial, isSome_of hf⟩) (M.le_trans (M.le_of_eq (l_k98 x)) (sPIsW4 x))
noncomputable def b_k129 : Code := Try.f129.body.getD .skip
theorem b_k129_ok : Try.f129.body = some b_k129 := by kernel_rfl
noncomputable def Psi_k129 (k : Nat) : Option KC := none
theorem Psi_k129_ok : PsiOk Try.prog noU Psi_k129 := by
  intro k c h
  unfold Psi_k129 at h
  cases h
def ann_k129 : Ann := (.seq .leaf (.join ⟨[], []⟩ (.seq .leaf (.block (.loop ⟨[(0, .val t22), (1, .val t137), (7, .val t3), (8, .val t3)], []⟩ (.seq .leaf (.seq (.cond .leaf .leaf) (.seq (.block (.seq .leaf (.seq .leaf (.cond (.seq .leaf .leaf) .leaf)))) .leaf)))))) (.seq .leaf .leaf)))
theorem l_k129 (x) : funI noU (tabT tab) noPhi Psi_k129 Try.f129 b_k129 ann_k129 (.prod t22 t137) t3 x = S_slices_IndexFunc_api_Spare_api_Spare  x := by kernel_rfl
theorem spec_k129 : FnSpec Try.prog 129 (.prod t22 t137) t3 (fcIndexFunc t30).sh :=
  fn_ok mixOk tabOk noU_ok noPhi_ok Psi_k129_ok Try.func129 b_k129_ok (by kernel_rfl) fun x => M.le_trans (M.le_of_eq (l_k129 x)) (sIndexFunc t30 x)
noncomputable def b_k117 : Code := Try.f117.body.getD .skip
theorem b_k117_ok : Try.f117.body = some b_k117 := by kernel_rfl
noncomputable def Psi_k117 (k : Nat) : Option KC := if k = 129 then some (.sc ⟨(.prod t22 t137), t3, (fcIndexFunc t30).sh, true⟩) else none
theorem Psi_k117_ok : PsiOk Try.prog noU Psi_k117 := by
  intro k c h
  unfold Psi_k117 at h
  split at h
  · cases h; subst_vars; exact ⟨spec_k129, fun _ _ => M.det_det⟩
  cases h
def ann_k117 : Ann := (.seq .leaf (.seq .leaf .leaf))
theorem l_k117 (x) : funI noU (tabT tab) noPhi Psi_k117 Try.f117 b_k117 ann_k117 (.prod t22 t137) t4 x = S_slices_ContainsFunc_api_Spare_api_Spare (fcIndexFunc t30).sh x := by kernel_rfl
theorem spec_k117 : FnSpec Try.prog 117 (.prod t22 t137) t4 (fcContainsFunc t30).sh :=
  fn_ok mixOk tabOk noU_ok noPhi_ok Psi_k117_ok Try.func117 b_k117_ok (by kernel_rfl) fun x => M.le_trans (M.le_of_eq (l_k117 x)) (sContainsFunc t30 x)
noncomputable def b_k118 : Code := Try.f118.body.getD .skip
theorem b_k118_ok : Try.f118.body = some b_k118 := by kernel_rfl
noncomputable def Psi_k118 (k : Nat) : Option KC := none
theorem Psi_k118_ok : PsiOk Try.prog noU Psi_k118 := by
  intro k c h
  unfold Psi_k118 at h
  cases h
def ann_k118 : Ann := (.seq .leaf (.seq .leaf .leaf))
theorem l_k118 (x) : codeI noU (tabT tab) noPhi Psi_k118 ann_k118 b_k118 (capsSt 1 (parSt (.prod t30 (.ptr t137)) x)) (retI (tabT tab) Try.f118.results.toList t4) = S_parts_all_api_Spare__c1  x := by kernel_rfl
theorem spec_k118 : FnSpec Try.prog 118 (.prod t30 (.ptr t137)) t4 (fcAllC1 t30).sh :=
  fnC_ok (n := 1) mixOk tabOk noU_ok noPhi_ok Psi_k118_ok Try.func118 b_k118_ok (by kernel_rfl) fun x => M.le_req (fun h => by obtain ⟨f, hf, _⟩ := h; exact caps_pre ⟨trivial, isSome_of hf⟩) (M.le_trans (M.le_of_eq (l_k118 x)) (sAllC1 t30 x))
noncomputable def b_k99 : Code := Try.f99.body.getD .skip
theorem b_k99_ok : Try.f99.body = some b_k99 := by kernel_rfl
noncomputable def U_k99 : FnTab := ⟨fun k => none, fun k => if k = 118 then some ⟨[t30], [t137], t4, (fcAllC1 t30).sh⟩ else none⟩
theorem U_k99_ok : FnTabOk Try.prog U_k99 where
  fnv := by
    intro k v h
    simp only [U_k99] at h
    cases h
  clv := by
    intro k v h
    simp only [U_k99] at h
    split at h
    · cases h; subst_vars; exact ⟨rfl, spec_k118⟩
    cases h
noncomputable def Psi_k99 (k : Nat) : Option KC := if k = 117 then some (.sc ⟨(.prod t22 t137), t4, (fcContainsFunc t30).sh, true⟩) else none
theorem Psi_k99_ok : PsiOk Try.prog U_k99 Psi_k99 := by
  intro k c h
  unfold Psi_k99 at h
  split at h
  · cases h; subst_vars; exact ⟨spec_k117, fun _ _ => M.det_det⟩
  cases h
def ann_k99 : Ann := (.seq .leaf (.seq .leaf .leaf))
theorem l_k99 (x) : funI U_k99 (tabT tab) noPhi Psi_k99 Try.f99 b_k99 ann_k99 (.prod t22 t137) t4 x = S_parts_all_api_Spare (fcContainsFunc t30).sh (fcAllC1 t30).sh x := by kernel_rfl
theorem spec_k99 : FnSpec Try.prog 99 (.prod t22 t137) t4 (fcAllF t30).sh :=
  fn_ok mixOk tabOk U_k99_ok noPhi_ok Psi_k99_ok Try.func99 b_k99_ok (by kernel_rfl) fun x => M.le_trans (M.le_of_eq (l_k99 x)) (sAllF t30 x)
noncomputable def b_k130 : Code := Try.f130.body.getD .skip
theorem b_k130_ok : Try.f130.body = some b_k130 := by kernel_rfl
noncomputable def Psi_k130 (k : Nat) : Option KC := none
theorem Psi_k130_ok : PsiOk Try.prog noU Psi_k130 := by
  intro k c h
  unfold Psi_k130 at h
  cases h
def ann_k130 : Ann := (.seq .leaf (.join ⟨[], []⟩ (.seq .leaf (.block (.loop ⟨[(0, .val t23), (1, .val t140), (7, .val t3), (8, .val t3)], []⟩ (.seq .leaf (.seq (.cond .leaf .leaf) (.seq (.block (.seq .leaf (.seq .leaf (.cond (.seq .leaf .leaf) .leaf)))) .leaf)))))) (.seq .leaf .leaf)))
theorem l_k130 (x) : funI noU (tabT tab) noPhi Psi_k130 Try.f130 b_k130 ann_k130 (.prod t23 t140) t3 x = S_slices_IndexFunc_api_Make_api_Make  x := by kernel_rfl
theorem spec_k130 : FnSpec Try.prog 130 (.prod t23 t140) t3 (fcIndexFunc t74).sh :=
  fn_ok mixOk tabOk noU_ok noPhi_ok Psi_k130_ok Try.func130 b_k130_ok (by kernel_rfl) fun x => M.le_trans (M.le_of_eq (l_k130 x)) (sIndexFunc t74 x)
noncomputable def b_k119 : Code := Try.f119.body.getD .skip
theorem b_k119_ok : Try.f119.body = some b_k119 := by kernel_rfl
noncomputable def Psi_k119 (k : Nat) : Option KC := if k = 130 then some (.sc ⟨(.prod t23 t140), t3, (fcIndexFunc t74).sh, true⟩) else none
theorem Psi_k119_ok : PsiOk Try.prog noU Psi_k119 := by
  intro k c h
  unfold Psi_k119 at h
  split at h
  · cases h; subst_vars; exact ⟨spec_k130, fun _ _ => M.det_det⟩
  cases h
def ann_k119 : Ann := (.seq .leaf (.seq .leaf .leaf))
theorem l_k119 (x) : funI noU (tabT tab) noPhi Psi_k119 Try.f119 b_k119 ann_k119 (.prod t23 t140) t4 x = S_slices_ContainsFunc_api_Make_api_Make (fcIndexFunc t74).sh x := by kernel_rfl
theorem spec_k119 : FnSpec Try.prog 119 (.prod t23 t140) t4 (fcContainsFunc t74).sh :=
  fn_ok mixOk tabOk noU_ok noPhi_ok Psi_k119_ok Try.func119 b_k119_ok (by kernel_rfl) fun x => M.le_trans (M.le_of_eq (l_k119 x)) (sContainsFunc t74 x)
noncomputable def b_k120 : Code := Try.f120.body.getD .skip
theorem b_k120_ok : Try.f120.body = some b_k120 := by kernel_rfl
noncomputable def Psi_k120 (k : Nat) : Option KC := none
theorem Psi_k120_ok : PsiOk Try.prog noU Psi_k120 := by
  intro k c h
  unfold Psi_k120 at h
  cases h
def ann_k120 : Ann := (.seq .leaf (.seq .leaf .leaf))
theorem l_k120 (x) : codeI noU (tabT tab) noPhi Psi_k120 ann_k120 b_k120 (capsSt 1 (parSt (.prod t74 (.ptr t140)) x)) (retI (tabT tab) Try.f120.results.toList t4) = S_parts_all_api_Make__c1  x := by kernel_rfl
theorem spec_k120 : FnSpec Try.prog 120 (.prod t74 (.ptr t140)) t4 (fcAllC1 t74).sh :=
  fnC_ok (n := 1) mixOk tabOk noU_ok noPhi_ok Psi_k120_ok Try.func120 b_k120_ok (by kernel_rfl) fun x => M.le_req (fun h => by obtain ⟨f, hf, _⟩ := h; exact caps_pre ⟨trivial, isSome_of hf⟩) (M.le_trans (M.le_of_eq (l_k120 x)) (sAllC1 t74 x))
noncomputable def b_k100 : Code := Try.f100.body.getD .skip
theorem b_k100_ok : Try.f100.body = some b_k100 := by kernel_rfl
noncomputable def U_k100 : FnTab := ⟨fun k => none, fun k => if k = 120 then some ⟨[t74], [t140], t4, (fcAllC1 t74).sh⟩ else none⟩
theorem U_k100_ok : FnTabOk Try.prog U_k100 where
  fnv := by
    intro k v h
    simp only [U_k100] at h
    cases h
  clv := by
    intro k v h
    simp only [U_k100] at h
    split at h
    · cases h; subst_vars; exact ⟨rfl, spec_k120⟩
    cases h
noncomputable def Psi_k100 (k : Nat) : Option KC := if k = 119 then some (.sc ⟨(.prod t23 t140), t4, (fcContainsFunc t74).sh, true⟩) else none
theorem Psi_k100_ok : PsiOk Try.prog U_k100 Psi_k100 := by
  intro k c h
  unfold Psi_k100 at h
  split at h
  · cases h; subst_vars; exact ⟨spec_k119, fun _ _ => M.det_det⟩
  cases h
def ann_k100 : Ann := (.seq .leaf (.seq .leaf .leaf))
theorem l_k100 (x) : funI U_k100 (tabT tab) noPhi Psi_k100 Try.f100 b_k100 ann_k100 (.prod t23 t140) t4 x = S_parts_all_api_Make (fcContainsFunc t74).sh (fcAllC1 t74).sh x := by kernel_rfl
theorem spec_k100 : FnSpec Try.prog 100 (.prod t23 t140) t4 (fcAllF t74).sh :=
  fn_ok mixOk tabOk U_k100_ok noPhi_ok Psi_k100_ok Try.func100 b_k100_ok (by kernel_rfl) fun x => M.le_trans (M.le_of_eq (l_k100 x)) (sAllF t74 x)
noncomputable def b_k131 : Code := Try.f131.body.getD .skip
theorem b_k131_ok : Try.f131.body = some b_k131 := by kernel_rfl
noncomputable def Psi_k131 (k : Nat) : Option KC := none
theorem Psi_k131_ok : PsiOk Try.prog noU Psi_k131 := by
  intro k c h
  unfold Psi_k131 at h
  cases h
def ann_k131 : Ann := (.seq .leaf (.join ⟨[], []⟩ (.seq .leaf (.block (.loop ⟨[(0, .val t24), (1, .val t141), (7, .val t3), (8, .val t3)], []⟩ (.seq .leaf (.seq (.cond .leaf .leaf) (.seq (.block (.seq .leaf (.seq .leaf (.cond (.seq .leaf .leaf) .leaf)))) .leaf)))))) (.seq .leaf .leaf)))
theorem l_k131 (x) : funI noU (tabT tab) noPhi Psi_k131 Try.f131 b_k131 ann_k131 (.prod t24 t141) t3 x = S_slices_IndexFunc_api_Trial_api_Trial  x := by kernel_rfl
theorem spec_k131 : FnSpec Try.prog 131 (.prod t24 t141) t3 (fcIndexFunc t54).sh :=
  fn_ok mixOk tabOk noU_ok noPhi_ok Psi_k131_ok Try.func131 b_k131_ok (by kernel_rfl) fun x => M.le_trans (M.le_of_eq (l_k131 x)) (sIndexFunc t54 x)
noncomputable def b_k121 : Code := Try.f121.body.getD .skip
theorem b_k121_ok : Try.f121.body = some b_k121 := by kernel_rfl
noncomputable def Psi_k121 (k : Nat) : Option KC := if k = 131 then some (.sc ⟨(.prod t24 t141), t3, (fcIndexFunc t54).sh, true⟩) else none
theorem Psi_k121_ok : PsiOk Try.prog noU Psi_k121 := by
  intro k c h
  unfold Psi_k121 at h
  split at h
  · cases h; subst_vars; exact ⟨spec_k131, fun _ _ => M.det_det⟩
  cases h
def ann_k121 : Ann := (.seq .leaf (.seq .leaf .leaf))
theorem l_k121 (x) : funI noU (tabT tab) noPhi Psi_k121 Try.f121 b_k121 ann_k121 (.prod t24 t141) t4 x = S_slices_ContainsFunc_api_Trial_api_Trial (fcIndexFunc t54).sh x := by kernel_rfl
theorem spec_k121 : FnSpec Try.prog 121 (.prod t24 t141) t4 (fcContainsFunc t54).sh :=
  fn_ok mixOk tabOk noU_ok noPhi_ok Psi_k121_ok Try.func121 b_k121_ok (by kernel_rfl) fun x => M.le_trans (M.le_of_eq (l_k121 x)) (sContainsFunc t54 x)
noncomputable def b_k122 : Code := Try.f122.body.getD .skip
theorem b_k122_ok : Try.f122.body = some b_k122 := by kernel_rfl
noncomputable def Psi_k122 (k : Nat) : Option KC := none
theorem Psi_k122_ok : PsiOk Try.prog noU Psi_k122 := by
  intro k c h
  unfold Psi_k122 at h
  cases h
def ann_k122 : Ann := (.seq .leaf (.seq .leaf .leaf))
theorem l_k122 (x) : codeI noU (tabT tab) noPhi Psi_k122 ann_k122 b_k122 (capsSt 1 (parSt (.prod t54 (.ptr t141)) x)) (retI (tabT tab) Try.f122.results.toList t4) = S_parts_all_api_Trial__c1  x := by kernel_rfl
theorem spec_k122 : FnSpec Try.prog 122 (.prod t54 (.ptr t141)) t4 (fcAllC1 t54).sh :=
  fnC_ok (n := 1) mixOk tabOk noU_ok noPhi_ok Psi_k122_ok Try.func122 b_k122_ok (by kernel_rfl) fun x => M.le_req (fun h => by obtain ⟨f, hf, _⟩ := h; exact caps_pre ⟨trivial, isSome_of hf⟩) (M.le_trans (M.le_of_eq (l_k122 x)) (sAllC1 t54 x))
noncomputable def b_k101 : Code := Try.f101.body.getD .skip
theorem b_k101_ok : Try.f101.body = some b_k101 := by kernel_rfl
noncomputable def U_k101 : FnTab := ⟨fun k => none, fun k => if k = 122 then some ⟨[t54], [t141], t4, (fcAllC1 t54).sh⟩ else none⟩
theorem U_k101_ok : FnTabOk Try.prog U_k101 where
  fnv := by
    intro k v h
    simp only [U_k101] at h
    cases h
  clv := by
    intro k v h
    simp only [U_k101] at h
    split at h
    · cases h; subst_vars; exact ⟨rfl, spec_k122⟩
    cases h
noncomputable def Psi_k101 (k : Nat) : Option KC := if k = 121 then some (.sc ⟨(.prod t24 t141), t4, (fcContainsFunc t54).sh, true⟩) else none
theorem Psi_k101_ok : PsiOk Try.prog U_k101 Psi_k101 := by
  intro k c h
  unfold Psi_k101 at h
  split at h
  · cases h; subst_vars; exact ⟨spec_k121, fun _ _ => M.det_det⟩
  cases h
def ann_k101 : Ann := (.seq .leaf (.seq .leaf .leaf))
theorem l_k101 (x) : funI U_k101 (tabT tab) noPhi Psi_k101 Try.f101 b_k101 ann_k101 (.prod t24 t141) t4 x = S_parts_all_api_Trial (fcContainsFunc t54).sh (fcAllC1 t54).sh x := by kernel_rfl
theorem spec_k101 : FnSpec Try.prog 101 (.prod t24 t141) t4 (fcAllF t54).sh :=
  fn_ok mixOk tabOk U_k101_ok noPhi_ok Psi_k101_ok Try.func101 b_k101_ok (by kernel_rfl) fun x => M.le_trans (M.le_of_eq (l_k101 x)) (sAllF t54 x)
noncomputable def b_k63 : Code := Try.f63.body.getD .skip
theorem b_k63_ok : Try.f63.body = some b_k63 := by kernel_rfl
noncomputable def U_k63 : FnTab := ⟨fun k => if k = 92 then some ⟨t30, t4, fcSpareC.sh⟩ else if k = 95 then some ⟨t95, t4, fcIsSlot.sh⟩ else none, fun k => if k = 96 then some ⟨[t74], [t138], t4, fcMakeC.sh⟩ else if k = 98 then some ⟨[t54], [t26], t4, fcTrialC.sh⟩ else none⟩
theorem U_k63_ok : FnTabOk Try.prog U_k63 where
  fnv := by
    intro k v h
    simp only [U_k63] at h
    split at h
    · cases h; subst_vars; exact spec_k92
    split at h
    · cases h; subst_vars; exact spec_k95
    cases h
  clv := by
    intro k v h
    simp only [U_k63] at h
    split at h
    · cases h; subst_vars; exact ⟨rfl, spec_k96⟩
    split at h
    · cases h; subst_vars; exact ⟨rfl, spec_k98⟩
    cases h
noncomputable def Psi_k63 (k : Nat) : Option KC := if k = 79 then some (.sc ⟨(.prod t3 (.prod t3 t3)), t4, fcWithin.sh, true⟩) else if k = 99 then some (.sc ⟨(.prod t22 t137), t4, (fcAllF t30).sh, true⟩) else if k = 100 then some (.sc ⟨(.prod t23 t140), t4, (fcAllF t74).sh, true⟩) else if k = 101 then some (.sc ⟨(.prod t24 t141), t4, (fcAllF t54).sh, true⟩) else none
theorem Psi_k63_ok : PsiOk Try.prog U_k63 Psi_k63 := by
  intro k c h
  unfold Psi_k63 at h
  split at h
  · cases h; subst_vars; exact ⟨spec_k79, fun _ _ => M.det_det⟩
  split at h
  · cases h; subst_vars; exact ⟨spec_k99, fun _ _ => M.det_det⟩
  split at h
  · cases h; subst_vars; exact ⟨spec_k100, fun _ _ => M.det_det⟩
  split at h
  · cases h; subst_vars; exact ⟨spec_k101, fun _ _ => M.det_det⟩
  cases h
def ann_k63 : Ann := (.seq .leaf (.seq .leaf (.seq .leaf (.seq .leaf (.seq .leaf (.seq .leaf .leaf))))))
theorem l_k63 (x) : funI U_k63 (tabT tab) noPhi Psi_k63 Try.f63 b_k63 ann_k63 t26 t4 x = S_parts_isWorkshop fcWithin.sh (fcAllF t30).sh (fcAllF t74).sh (fcAllF t54).sh fcMakeC.sh fcTrialC.sh fcSpareC.sh fcIsSlot.sh x := by kernel_rfl
theorem spec_k63 : FnSpec Try.prog 63 t26 t4 fcIsWorkshop.sh :=
  fn_ok mixOk tabOk U_k63_ok noPhi_ok Psi_k63_ok Try.func63 b_k63_ok (by kernel_rfl) fun x => M.le_trans (M.le_of_eq (l_k63 x)) (sPIsWorkshop x)
noncomputable def b_k25 : Code := Try.f25.body.getD .skip
theorem b_k25_ok : Try.f25.body = some b_k25 := by kernel_rfl
noncomputable def Psi_k25 (k : Nat) : Option KC := if k = 63 then some (.sc ⟨t26, t4, fcIsWorkshop.sh, true⟩) else none
theorem Psi_k25_ok : PsiOk Try.prog noU Psi_k25 := by
  intro k c h
  unfold Psi_k25 at h
  split at h
  · cases h; subst_vars; exact ⟨spec_k63, fun _ _ => M.det_det⟩
  cases h
def ann_k25 : Ann := (.seq .leaf (.seq (.seq .leaf (.cond (.seq .leaf .leaf) .leaf)) (.seq .leaf (.join ⟨[], []⟩ (.seq .leaf (.block (.loop ⟨[(3, .mapl 12), (14, .val t24), (15, .val t3), (16, .val t3)], [(12, .mp t58 t3)]⟩ (.seq .leaf (.seq (.cond .leaf .leaf) (.seq (.block (.seq .leaf (.seq .leaf (.seq (.seq .leaf (.seq .leaf (.cond (.seq .leaf .leaf) .leaf))) .leaf)))) .leaf)))))) (.seq .leaf .leaf)))))
theorem l_k25 (x) : funI noU (tabT tab) noPhi Psi_k25 Try.f25 b_k25 ann_k25 t26 t33 x = S_parts_Check fcIsWorkshop.sh x := by kernel_rfl
theorem spec_k25 : FnSpec Try.prog 25 t26 t33 fcCheck.sh :=
  fn_ok mixOk tabOk noU_ok noPhi_ok Psi_k25_ok Try.func25 b_k25_ok (by kernel_rfl) fun x => M.le_trans (M.le_of_eq (l_k25 x)) (sPCheck x)
noncomputable def b_k132 : Code := Try.f132.body.getD .skip
theorem b_k132_ok : Try.f132.body = some b_k132 := by kernel_rfl
noncomputable def Psi_k132 (k : Nat) : Option KC := none
theorem Psi_k132_ok : PsiOk Try.prog noU Psi_k132 := by
  intro k c h
  unfold Psi_k132 at h
  cases h
def ann_k132 : Ann := (.seq .leaf (.join ⟨[], []⟩ (.seq .leaf (.block (.loop ⟨[(0, .val t36), (1, .val t3), (7, .val t3), (8, .val t3)], []⟩ (.seq .leaf (.seq (.cond .leaf .leaf) (.seq (.block (.seq .leaf (.seq .leaf (.cond (.seq .leaf .leaf) .leaf)))) .leaf)))))) (.seq .leaf .leaf)))
theorem l_k132 (x) : funI noU (tabT tab) noPhi Psi_k132 Try.f132 b_k132 ann_k132 (.prod t36 t3) t3 x = S_slices_Index_int_int  x := by kernel_rfl
theorem spec_k132 : FnSpec Try.prog 132 (.prod t36 t3) t3 fcIndex.sh :=
  fn_ok mixOk tabOk noU_ok noPhi_ok Psi_k132_ok Try.func132 b_k132_ok (by kernel_rfl) fun x => M.le_trans (M.le_of_eq (l_k132 x)) (sIndex x)
noncomputable def b_k123 : Code := Try.f123.body.getD .skip
theorem b_k123_ok : Try.f123.body = some b_k123 := by kernel_rfl
noncomputable def Psi_k123 (k : Nat) : Option KC := if k = 132 then some (.sc ⟨(.prod t36 t3), t3, fcIndex.sh, true⟩) else none
theorem Psi_k123_ok : PsiOk Try.prog noU Psi_k123 := by
  intro k c h
  unfold Psi_k123 at h
  split at h
  · cases h; subst_vars; exact ⟨spec_k132, fun _ _ => M.det_det⟩
  cases h
def ann_k123 : Ann := (.seq .leaf (.seq .leaf .leaf))
theorem l_k123 (x) : funI noU (tabT tab) noPhi Psi_k123 Try.f123 b_k123 ann_k123 (.prod t36 t3) t4 x = S_slices_Contains_int_int fcIndex.sh x := by kernel_rfl
theorem spec_k123 : FnSpec Try.prog 123 (.prod t36 t3) t4 fcIn.sh :=
  fn_ok mixOk tabOk noU_ok noPhi_ok Psi_k123_ok Try.func123 b_k123_ok (by kernel_rfl) fun x => M.le_trans (M.le_of_eq (l_k123 x)) (sContains x)
noncomputable def b_k105 : Code := Try.f105.body.getD .skip
theorem b_k105_ok : Try.f105.body = some b_k105 := by kernel_rfl
noncomputable def Psi_k105 (k : Nat) : Option KC := if k = 79 then some (.sc ⟨(.prod t3 (.prod t3 t3)), t4, fcWithin.sh, true⟩) else if k = 123 then some (.sc ⟨(.prod t36 t3), t4, fcIn.sh, true⟩) else none
theorem Psi_k105_ok : PsiOk Try.prog noU Psi_k105 := by
  intro k c h
  unfold Psi_k105 at h
  split at h
  · cases h; subst_vars; exact ⟨spec_k79, fun _ _ => M.det_det⟩
  split at h
  · cases h; subst_vars; exact ⟨spec_k123, fun _ _ => M.det_det⟩
  cases h
def ann_k105 : Ann := (.seq .leaf (.seq .leaf (.seq .leaf .leaf)))
theorem l_k105 (x) : funI noU (tabT tab) noPhi Psi_k105 Try.f105 b_k105 ann_k105 (.prod t26 (.prod t3 (.prod t3 (.prod t3 t3)))) t4 x = S_parts_fits fcWithin.sh fcIn.sh x := by kernel_rfl
theorem spec_k105 : FnSpec Try.prog 105 (.prod t26 (.prod t3 (.prod t3 (.prod t3 t3)))) t4 fcFitsAt.sh :=
  fn_ok mixOk tabOk noU_ok noPhi_ok Psi_k105_ok Try.func105 b_k105_ok (by kernel_rfl) fun x => M.le_trans (M.le_of_eq (l_k105 x)) (sPFits x)
noncomputable def b_k104 : Code := Try.f104.body.getD .skip
theorem b_k104_ok : Try.f104.body = some b_k104 := by kernel_rfl
noncomputable def Psi_k104 (k : Nat) : Option KC := if k = 105 then some (.sc ⟨(.prod t26 (.prod t3 (.prod t3 (.prod t3 t3)))), t4, fcFitsAt.sh, true⟩) else none
theorem Psi_k104_ok : PsiOk Try.prog noU Psi_k104 := by
  intro k c h
  unfold Psi_k104 at h
  split at h
  · cases h; subst_vars; exact ⟨spec_k105, fun _ _ => M.det_det⟩
  cases h
def ann_k104 : Ann := (.seq .leaf (.seq .leaf .leaf))
theorem l_k104 (x) : codeI noU (tabT tab) noPhi Psi_k104 ann_k104 b_k104 (capsSt 1 (parSt (.prod t54 (.prod (.ptr t3) (.prod (.ptr t26) (.ptr t3)))) x)) (retI (tabT tab) Try.f104.results.toList t4) = S_parts_open_c1 fcFitsAt.sh x := by kernel_rfl
theorem spec_k104 : FnSpec Try.prog 104 (.prod t54 (.prod (.ptr t3) (.prod (.ptr t26) (.ptr t3)))) t4 fcOpenC.sh :=
  fnC_ok (n := 1) mixOk tabOk noU_ok noPhi_ok Psi_k104_ok Try.func104 b_k104_ok (by kernel_rfl) fun x => M.le_req (fun h => by obtain ⟨i, w, n, hf, _⟩ := h; exact caps_pre ⟨⟨⟨trivial, isSome_of (congrArg (fun o => o.1) hf)⟩, isSome_of (congrArg (fun o => o.2.1) hf)⟩, isSome_of (congrArg (fun o => o.2.2) hf)⟩) (M.le_trans (M.le_of_eq (l_k104 x)) (sPOpenC x))
noncomputable def b_k65 : Code := Try.f65.body.getD .skip
theorem b_k65_ok : Try.f65.body = some b_k65 := by kernel_rfl
noncomputable def U_k65 : FnTab := ⟨fun k => none, fun k => if k = 104 then some ⟨[t54], [t3, t26, t3], t4, fcOpenC.sh⟩ else none⟩
theorem U_k65_ok : FnTabOk Try.prog U_k65 where
  fnv := by
    intro k v h
    simp only [U_k65] at h
    cases h
  clv := by
    intro k v h
    simp only [U_k65] at h
    split at h
    · cases h; subst_vars; exact ⟨rfl, spec_k104⟩
    cases h
noncomputable def Psi_k65 (k : Nat) : Option KC := if k = 25 then some (.sc ⟨t26, t33, fcCheck.sh, true⟩) else if k = 101 then some (.sc ⟨(.prod t24 t141), t4, (fcAllF t54).sh, true⟩) else none
theorem Psi_k65_ok : PsiOk Try.prog U_k65 Psi_k65 := by
  intro k c h
  unfold Psi_k65 at h
  split at h
  · cases h; subst_vars; exact ⟨spec_k25, fun _ _ => M.det_det⟩
  split at h
  · cases h; subst_vars; exact ⟨spec_k101, fun _ _ => M.det_det⟩
  cases h
def ann_k65 : Ann := (.seq .leaf (.seq (.seq .leaf (.seq .leaf (.cond (.seq .leaf .leaf) .leaf))) (.seq (.seq .leaf (.cond (.seq .leaf .leaf) .leaf)) (.seq .leaf (.join ⟨[(7, .loc 22 0)], [(22, .cells t110 [.val t22, .val t23, .val t3, .val t24, .own 61]), (61, .arr t36)]⟩ (.seq .leaf (.block (.loop ⟨[(2, .loc 2 0), (7, .loc 22 0), (24, .val t22), (25, .val t3), (26, .val t3)], [(2, .frzc t26), (22, .cells t110 [.val t22, .val t23, .val t3, .val t24, .own 61]), (61, .arr t36)]⟩ (.seq .leaf (.seq (.cond .leaf .leaf) (.join ⟨[(2, .loc 2 0), (7, .loc 22 0), (24, .val t22), (25, .val t3), (26, .val t3)], [(2, .frzc t26), (22, .cells t110 [.val t22, .val t23, .val t3, .val t24, .own 61]), (61, .arr t36)]⟩ (.block (.seq .leaf (.seq .leaf (.join ⟨[(2, .loc 2 0), (7, .loc 22 0), (10, .own 10), (24, .val t22), (25, .val t3), (26, .val t3)], [(2, .frzc t26), (10, .arr t3), (22, .cells t110 [.val t22, .val t23, .val t3, .val t24, .own 61]), (61, .arr t36)]⟩ (.seq .leaf (.block (.loop ⟨[(2, .loc 2 0), (7, .loc 22 0), (8, .loc 8 0), (9, .loc 9 0), (10, .own 10), (11, .loc 11 0), (24, .val t22), (25, .val t3), (26, .val t3)], [(2, .frzc t26), (8, .frzc t3), (9, .whole t30), (10, .arr t3), (11, .cells t3 [.val t3]), (22, .cells t110 [.val t22, .val t23, .val t3, .val t24, .own 61]), (61, .arr t36)]⟩ (.seq (.seq .leaf (.cond .leaf .leaf)) (.join ⟨[(2, .loc 2 0), (7, .loc 22 0), (8, .loc 8 0), (9, .loc 9 0), (10, .own 10), (11, .loc 11 0), (24, .val t22), (25, .val t3), (26, .val t3)], [(2, .frzc t26), (8, .frzc t3), (9, .whole t30), (10, .arr t3), (11, .frzc t3), (22, .cells t110 [.val t22, .val t23, .val t3, .val t24, .own 61]), (61, .arr t36)]⟩ (.block (.seq .leaf (.seq .leaf (.cond .leaf .leaf)))) (.seq (.seq .leaf .leaf) .leaf)))))) (.seq (.seq .leaf (.cond (.seq .leaf .leaf) .leaf)) .leaf))))) .leaf)))))) (.seq .leaf .leaf))))))
theorem l_k65 (x) : funI U_k65 (tabT tab) noPhi Psi_k65 Try.f65 b_k65 ann_k65 (.prod t26 t4) (.prod t105 t33) x = S_parts_open fcCheck.sh (fcAllF t54).sh fcOpenC.sh x := by kernel_rfl
theorem spec_k65 : FnSpec Try.prog 65 (.prod t26 t4) (.prod t105 t33) fcOpen.sh :=
  fn_ok mixOk tabOk U_k65_ok noPhi_ok Psi_k65_ok Try.func65 b_k65_ok (by kernel_rfl) fun x => M.le_trans (M.le_of_eq (l_k65 x)) (sPOpen x)
noncomputable def b_k58 : Code := Try.f58.body.getD .skip
theorem b_k58_ok : Try.f58.body = some b_k58 := by kernel_rfl
noncomputable def Psi_k58 (k : Nat) : Option KC := none
theorem Psi_k58_ok : PsiOk Try.prog noU Psi_k58 := by
  intro k c h
  unfold Psi_k58 at h
  cases h
def ann_k58 : Ann := (.seq .leaf (.seq .leaf (.join ⟨[(3, .own 3)], [(3, .arr t3)]⟩ (.seq .leaf (.block (.loop ⟨[(0, .val t92), (3, .own 3), (5, .val t3)], [(3, .arr t3)]⟩ (.seq .leaf (.seq (.cond .leaf .leaf) (.join ⟨[(0, .val t92), (3, .own 3), (5, .val t3)], [(3, .arr t3)]⟩ (.block (.seq .leaf (.seq .leaf (.cond .leaf .leaf)))) .leaf)))))) (.seq .leaf .leaf))))
theorem l_k58 (x) : funI noU (tabT tab) noPhi Psi_k58 Try.f58 b_k58 ann_k58 t92 t36 x = S_parts_list  x := by kernel_rfl
theorem spec_k58 : FnSpec Try.prog 58 t92 t36 fcList.sh :=
  fn_ok mixOk tabOk noU_ok noPhi_ok Psi_k58_ok Try.func58 b_k58_ok (by kernel_rfl) fun x => M.le_trans (M.le_of_eq (l_k58 x)) (sList x)
noncomputable def b_k106 : Code := Try.f106.body.getD .skip
theorem b_k106_ok : Try.f106.body = some b_k106 := by kernel_rfl
noncomputable def Psi_k106 (k : Nat) : Option KC := none
theorem Psi_k106_ok : PsiOk Try.prog noU Psi_k106 := by
  intro k c h
  unfold Psi_k106 at h
  cases h
def ann_k106 : Ann := (.seq .leaf (.seq (.seq .leaf (.block (.seq .leaf (.cond (.seq .leaf .leaf) (.seq .leaf (.cond (.seq .leaf .leaf) .leaf)))))) (.seq .leaf .leaf)))
theorem l_k106 (x) : funI noU (tabT tab) noPhi Psi_k106 Try.f106 b_k106 ann_k106 (.prod t3 t3) t3 x = S_parts_known  x := by kernel_rfl
theorem spec_k106 : FnSpec Try.prog 106 (.prod t3 t3) t3 fcIs.sh :=
  fn_ok mixOk tabOk noU_ok noPhi_ok Psi_k106_ok Try.func106 b_k106_ok (by kernel_rfl) fun x => M.le_trans (M.le_of_eq (l_k106 x)) (sPKnown x)
noncomputable def b_k111 : Code := Try.f111.body.getD .skip
theorem b_k111_ok : Try.f111.body = some b_k111 := by kernel_rfl
noncomputable def Psi_k111 (k : Nat) : Option KC := if k = 105 then some (.sc ⟨(.prod t26 (.prod t3 (.prod t3 (.prod t3 t3)))), t4, fcFitsAt.sh, true⟩) else none
theorem Psi_k111_ok : PsiOk Try.prog noU Psi_k111 := by
  intro k c h
  unfold Psi_k111 at h
  split at h
  · cases h; subst_vars; exact ⟨spec_k105, fun _ _ => M.det_det⟩
  cases h
def ann_k111 : Ann := (.seq .leaf (.seq .leaf (.join ⟨[(7, .val t126)], []⟩ (.seq .leaf (.block (.loop ⟨[(0, .val t105), (2, .val t3), (7, .val t126), (18, .val t36), (19, .val t3), (20, .val t3)], []⟩ (.seq .leaf (.seq (.cond .leaf .leaf) (.join ⟨[(0, .val t105), (2, .val t3), (7, .mapl 24), (18, .val t36), (19, .val t3), (20, .val t3)], [(24, .mp t3 t3)]⟩ (.block (.seq .leaf (.seq .leaf (.join ⟨[(0, .val t105), (2, .val t3), (10, .mapl 24), (18, .val t36), (19, .val t3), (20, .val t3)], [(24, .mp t3 t3)]⟩ (.seq .leaf (.block (.loop ⟨[(0, .val t105), (2, .val t3), (7, .val t126), (9, .val t3), (10, .mapl 24), (18, .val t36), (19, .val t3), (20, .val t3), (31, .val t36), (32, .val t3), (33, .val t3)], [(24, .mp t3 t3)]⟩ (.seq .leaf (.seq (.cond .leaf .leaf) (.join ⟨[(0, .val t105), (2, .val t3), (7, .val t126), (9, .val t3), (10, .mapl 24), (18, .val t36), (19, .val t3), (20, .val t3), (31, .val t36), (32, .val t3), (33, .val t3)], [(24, .mp t3 t3)]⟩ (.block (.seq .leaf (.seq .leaf (.join ⟨[(0, .val t105), (2, .val t3), (7, .val t126), (9, .val t3), (10, .mapl 24), (13, .val t3), (18, .val t36), (19, .val t3), (20, .val t3), (31, .val t36), (32, .val t3), (33, .val t3)], [(24, .mp t3 t3)]⟩ (.seq .leaf (.block (.loop ⟨[(0, .val t105), (2, .val t3), (7, .val t126), (9, .val t3), (10, .mapl 24), (12, .val t3), (13, .val t3), (18, .val t36), (19, .val t3), (20, .val t3), (31, .val t36), (32, .val t3), (33, .val t3), (46, .val t3), (47, .val t3)], [(24, .mp t3 t3)]⟩ (.seq .leaf (.seq (.cond .leaf .leaf) (.join ⟨[(0, .val t105), (2, .val t3), (7, .val t126), (9, .val t3), (10, .mapl 24), (12, .val t3), (13, .val t3), (18, .val t36), (19, .val t3), (20, .val t3), (31, .val t36), (32, .val t3), (33, .val t3), (46, .val t3), (47, .val t3)], [(24, .mp t3 t3)]⟩ (.block (.seq .leaf (.seq .leaf (.cond .leaf .leaf)))) .leaf)))))) (.seq .leaf (.block (.loop ⟨[(0, .val t105), (2, .val t3), (7, .val t126), (9, .val t3), (10, .mapl 24), (13, .val t3), (18, .val t36), (19, .val t3), (20, .val t3), (31, .val t36), (32, .val t3), (33, .val t3), (65, .iter 65)], [(24, .mp t3 t3), (65, .it t3 t3)]⟩ (.seq .leaf (.seq (.cond .leaf .leaf) (.block (.seq .leaf .leaf))))))))))) .leaf)))))) .leaf)))) .leaf)))))) (.seq .leaf .leaf))))
theorem l_k111 (x) : funI noU (tabT tab) noPhi Psi_k111 Try.f111 b_k111 ann_k111 (.prod t105 (.prod t36 t3)) t126 x = S_parts_shop_mended fcFitsAt.sh x := by kernel_rfl
theorem spec_k111 : FnSpec Try.prog 111 (.prod t105 (.prod t36 t3)) t126 shMended :=
  fn_ok mixOk tabOk noU_ok noPhi_ok Psi_k111_ok Try.func111 b_k111_ok (by kernel_rfl) fun x => M.le_trans (M.le_of_eq (l_k111 x)) (sMended x)
noncomputable def b_k80 : Code := Try.f80.body.getD .skip
theorem b_k80_ok : Try.f80.body = some b_k80 := by kernel_rfl
noncomputable def Psi_k80 (k : Nat) : Option KC := if k = 106 then some (.sc ⟨(.prod t3 t3), t3, fcIs.sh, true⟩) else if k = 111 then some (.sc ⟨(.prod t105 (.prod t36 t3)), t126, shMended, false⟩) else none
theorem Psi_k80_ok : PsiOk Try.prog noU Psi_k80 := by
  intro k c h
  unfold Psi_k80 at h
  split at h
  · cases h; subst_vars; exact ⟨spec_k106, fun _ _ => M.det_det⟩
  split at h
  · cases h; subst_vars; exact ⟨spec_k111, fun h => by cases h⟩
  cases h
def ann_k80 : Ann := (.seq .leaf (.seq .leaf (.seq .leaf (.join ⟨[(7, .val t126), (8, .val t3)], []⟩ (.seq .leaf (.cond .leaf .leaf)) (.seq .leaf .leaf)))))
theorem l_k80 (x) : funI noU (tabT tab) noPhi Psi_k80 Try.f80 b_k80 ann_k80 (.prod t105 (.prod t36 t3)) t3 x = S_parts_shop_mends fcIs.sh shMended x := by kernel_rfl
theorem spec_k80 : FnSpec Try.prog 80 (.prod t105 (.prod t36 t3)) t3 fcShopMends.sh :=
  fn_ok mixOk tabOk noU_ok noPhi_ok Psi_k80_ok Try.func80 b_k80_ok (by kernel_rfl) fun x => M.le_trans (M.le_of_eq (l_k80 x)) (sShopMends x)
noncomputable def b_klists : Code := Try.f84.body.getD .skip
theorem b_klists_ok : Try.f84.body = some b_klists := by kernel_rfl
noncomputable def Psi_klists (k : Nat) : Option KC := if k = 57 then some (.sc ⟨t92, t3, fcOnes.sh, true⟩) else if k = 58 then some (.sc ⟨t92, t36, fcList.sh, true⟩) else if k = 80 then some (.sc ⟨(.prod t105 (.prod t36 t3)), t3, fcShopMends.sh, true⟩) else none
theorem Psi_klists_ok : PsiOk Try.prog noU Psi_klists := by
  intro k c h
  unfold Psi_klists at h
  split at h
  · cases h; subst_vars; exact ⟨spec_k57, fun _ _ => M.det_det⟩
  split at h
  · cases h; subst_vars; exact ⟨spec_k58, fun _ _ => M.det_det⟩
  split at h
  · cases h; subst_vars; exact ⟨spec_k80, fun _ _ => M.det_det⟩
  cases h
noncomputable def ioc_lists : IOC := ⟨⟨[(0, .val t105), (1, .yld), (1000000, .tr t92)], []⟩, ⟨[(1000000, .tr t92)], []⟩, [], 2, (S_parts_shop_lists fcOnes.sh fcList.sh fcShopMends.sh)⟩
def ann_klists : Ann := (.seq .leaf (.block (.loop ⟨[(0, .val t105), (1, .yld), (13, .val t3), (14, .val t3), (1000000, .tr t92)], []⟩ (.seq .leaf (.seq (.cond .leaf .leaf) (.join ⟨[(0, .val t105), (1, .yld), (13, .val t3), (14, .val t3), (1000000, .tr t92)], []⟩ (.block (.seq .leaf (.scope (.seq .leaf (.seq .leaf (.block (.loop ⟨[(0, .val t105), (1, .yld), (4, .val t3), (13, .val t3), (14, .val t3), (23, .val t92), (24, .val t92), (1000000, .tr t92)], []⟩ (.seq .leaf (.seq (.cond .leaf .leaf) (.join ⟨[(0, .val t105), (1, .yld), (4, .val t3), (13, .val t3), (14, .val t3), (23, .val t92), (24, .val t92), (1000000, .tr t92)], []⟩ (.block (.seq .leaf (.seq (.seq .leaf (.cond .leaf .leaf)) (.join ⟨[(0, .val t105), (1, .yld), (4, .val t3), (5, .val t92), (13, .val t3), (14, .val t3), (23, .val t92), (24, .val t92), (1000000, .tr t92)], []⟩ (.seq .leaf (.block (.loop ⟨[(0, .val t105), (1, .yld), (4, .val t3), (5, .val t92), (13, .val t3), (14, .val t3), (23, .val t92), (24, .val t92), (36, .val t3), (37, .val t3), (1000000, .tr t92)], []⟩ (.seq .leaf (.seq (.cond .leaf .leaf) (.seq (.block (.seq .leaf (.seq .leaf (.cond .leaf .leaf)))) .leaf)))))) (.seq .leaf (.cond .leaf .leaf)))))) .leaf)))))))))) .leaf))))))
theorem l_klists (x) : funIO noU (tabT tab) noPhi Psi_klists Try.f84 b_klists ann_klists ⟨[(0, .val t105), (1, .yld), (1000000, .tr t92)], []⟩ ⟨[(1000000, .tr t92)], []⟩ [] x = S_parts_shop_lists fcOnes.sh fcList.sh fcShopMends.sh x := by kernel_rfl
theorem io_lists : IoSpec Try.prog noU 84 ioc_lists :=
  fnIO_ok mixOk tabOk noPhi_ok Psi_klists_ok Try.func84 b_klists_ok (by kernel_rfl) fun x => M.le_trans (M.le_of_eq (l_klists x)) (M.le_refl <| S_parts_shop_lists fcOnes.sh fcList.sh fcShopMends.sh x)
noncomputable def itc_lists : ITC := ⟨t105, t92, listsPre, listsSeq⟩
theorem itc_lists_ok : ItSpec Try.prog 84 itc_lists := it_of_io (c := ioc_lists) io_lists noU_ok (ic := itc_lists) (fun x l L => (x, l, (l, L, 0, false), ())) rfl (by decide) (by simp [itc_lists])
  (fun x l L i => by
    by_cases h0 : i = 0
    · subst h0; exact .inr (.inl ⟨by decide, rfl⟩)
    · by_cases h1 : i = 1
      · subst h1; exact .inr (.inr (.inl ⟨rfl, rfl⟩))
      · by_cases h2 : i = TRS
        · subst h2; exact .inr (.inr (.inr ⟨rfl, rfl⟩))
        · refine .inl ?_
          exact (if_neg h0).trans ((if_neg h1).trans (if_neg h2)))
  rfl (fun τ => ⟨_, _, _, _, rfl⟩) (fun x l hp => by
    obtain ⟨w, hs, hw⟩ := hp
    subst hs
    have h := rLists w l hw
    refine ⟨h.1, fun τ hτ l' L' n hsl => ?_⟩
    have e : AV.tr τ.1.1 t92 τ.1.2.1 τ.1.2.2.1 τ.1.2.2.2 = .tr l' t92 L' n false := hsl
    injection e with e1 e2 e3 e4 e5
    exact e4.symm.trans ((h.2 τ hτ).2.2 e5))
noncomputable def b_k56 : Code := Try.f56.body.getD .skip
theorem b_k56_ok : Try.f56.body = some b_k56 := by kernel_rfl
noncomputable def Psi_k56 (k : Nat) : Option KC := if k = 57 then some (.sc ⟨t92, t3, fcOnes.sh, true⟩) else if k = 65 then some (.sc ⟨(.prod t26 t4), (.prod t105 t33), fcOpen.sh, true⟩) else if k = 84 then some (.it itc_lists) else none
theorem Psi_k56_ok : PsiOk Try.prog noU Psi_k56 := by
  intro k c h
  unfold Psi_k56 at h
  split at h
  · cases h; subst_vars; exact ⟨spec_k57, fun _ _ => M.det_det⟩
  split at h
  · cases h; subst_vars; exact ⟨spec_k65, fun _ _ => M.det_det⟩
  split at h
  · cases h; subst_vars; exact itc_lists_ok
  cases h
def ann_k56 : Ann := (.seq .leaf (.seq .leaf (.seq (.seq .leaf (.cond (.seq .leaf .leaf) .leaf)) (.seq .leaf (.join ⟨[(6, .loc 6 0)], [(6, .cells t88 [.own 50000]), (50000, .arr t92)]⟩ (.seq .leaf (.block (.range ⟨[(6, .loc 6 0)], [(6, .cells t88 [.own 50000]), (50000, .arr t92)]⟩ ⟨[(6, .loc 100006 0), (18, .val t92)], [(100006, .cells t88 [.own 150000]), (150000, .arr t92)]⟩ ⟨[], [(100006, .cells t88 [.own 150000]), (150000, .arr t92)]⟩ .leaf (.block (.seq (.seq .leaf (.cond .leaf .leaf)) .leaf))))) (.seq (.seq .leaf (.cond (.seq .leaf .leaf) .leaf)) (.seq .leaf .leaf)))))))
theorem l_k56 (x) : funI noU (tabT tab) noPhi Psi_k56 Try.f56 b_k56 ann_k56 t26 (.prod t88 t33) x = S_parts_fewest fcOnes.sh fcOpen.sh itc_lists.pre itc_lists.seq x := by kernel_rfl
theorem spec_k56 : FnSpec Try.prog 56 t26 (.prod t88 t33) fcFewSets.sh :=
  fn_ok mixOk tabOk noU_ok noPhi_ok Psi_k56_ok Try.func56 b_k56_ok (by kernel_rfl) fun x => M.le_trans (M.le_of_eq (l_k56 x)) (sFewSets x)
noncomputable def b_k15 : Code := Try.f15.body.getD .skip
theorem b_k15_ok : Try.f15.body = some b_k15 := by kernel_rfl
noncomputable def Psi_k15 (k : Nat) : Option KC := if k = 56 then some (.sc ⟨t26, (.prod t88 t33), fcFewSets.sh, true⟩) else if k = 57 then some (.sc ⟨t92, t3, fcOnes.sh, true⟩) else none
theorem Psi_k15_ok : PsiOk Try.prog noU Psi_k15 := by
  intro k c h
  unfold Psi_k15 at h
  split at h
  · cases h; subst_vars; exact ⟨spec_k56, fun _ _ => M.det_det⟩
  split at h
  · cases h; subst_vars; exact ⟨spec_k57, fun _ _ => M.det_det⟩
  cases h
def ann_k15 : Ann := (.seq .leaf (.seq .leaf (.seq (.seq .leaf (.cond (.seq .leaf .leaf) .leaf)) (.seq .leaf .leaf))))
theorem l_k15 (x) : funI noU (tabT tab) noPhi Psi_k15 Try.f15 b_k15 ann_k15 t26 (.prod t3 t33) x = S_parts_Fewest fcFewSets.sh fcOnes.sh x := by kernel_rfl
theorem spec_k15 : FnSpec Try.prog 15 t26 (.prod t3 t33) fcPFewest.sh :=
  fn_ok mixOk tabOk noU_ok noPhi_ok Psi_k15_ok Try.func15 b_k15_ok (by kernel_rfl) fun x => M.le_trans (M.le_of_eq (l_k15 x)) (sPFewest x)
noncomputable def b_k16 : Code := Try.f16.body.getD .skip
theorem b_k16_ok : Try.f16.body = some b_k16 := by kernel_rfl
noncomputable def Psi_k16 (k : Nat) : Option KC := if k = 56 then some (.sc ⟨t26, (.prod t88 t33), fcFewSets.sh, true⟩) else if k = 58 then some (.sc ⟨t92, t36, fcList.sh, true⟩) else none
theorem Psi_k16_ok : PsiOk Try.prog noU Psi_k16 := by
  intro k c h
  unfold Psi_k16 at h
  split at h
  · cases h; subst_vars; exact ⟨spec_k56, fun _ _ => M.det_det⟩
  split at h
  · cases h; subst_vars; exact ⟨spec_k58, fun _ _ => M.det_det⟩
  cases h
def ann_k16 : Ann := (.seq .leaf (.seq .leaf (.seq (.seq .leaf (.cond (.seq .leaf .leaf) .leaf)) (.seq .leaf (.join ⟨[(6, .val t92)], []⟩ (.seq .leaf (.block (.loop ⟨[(6, .val t92), (20, .val t88), (21, .val t3), (22, .val t3)], []⟩ (.seq .leaf (.seq (.cond .leaf .leaf) (.seq (.block (.seq .leaf .leaf)) .leaf)))))) (.seq .leaf .leaf))))))
theorem l_k16 (x) : funI noU (tabT tab) noPhi Psi_k16 Try.f16 b_k16 ann_k16 t26 (.prod t36 t33) x = S_parts_Needed fcFewSets.sh fcList.sh x := by kernel_rfl
theorem spec_k16 : FnSpec Try.prog 16 t26 (.prod t36 t33) fcPNeeded.sh :=
  fn_ok mixOk tabOk noU_ok noPhi_ok Psi_k16_ok Try.func16 b_k16_ok (by kernel_rfl) fun x => M.le_trans (M.le_of_eq (l_k16 x)) (sPNeeded x)
noncomputable def b_k70 : Code := Try.f70.body.getD .skip
theorem b_k70_ok : Try.f70.body = some b_k70 := by kernel_rfl
noncomputable def Psi_k70 (k : Nat) : Option KC := if k = 105 then some (.sc ⟨(.prod t26 (.prod t3 (.prod t3 (.prod t3 t3)))), t4, fcFitsAt.sh, true⟩) else if k = 106 then some (.sc ⟨(.prod t3 t3), t3, fcIs.sh, true⟩) else none
theorem Psi_k70_ok : PsiOk Try.prog noU Psi_k70 := by
  intro k c h
  unfold Psi_k70 at h
  split at h
  · cases h; subst_vars; exact ⟨spec_k105, fun _ _ => M.det_det⟩
  split at h
  · cases h; subst_vars; exact ⟨spec_k106, fun _ _ => M.det_det⟩
  cases h
def ann_k70 : Ann := (.seq .leaf (.seq .leaf (.join ⟨[(0, .val t105), (1, .val t3), (9, .val t3)], []⟩ (.seq .leaf (.block (.loop ⟨[(0, .val t105), (1, .val t3), (2, .val t3), (3, .val t3), (9, .val t3), (18, .val t36), (19, .val t3), (20, .val t3)], []⟩ (.seq .leaf (.seq (.cond .leaf .leaf) (.join ⟨[(0, .val t105), (1, .val t3), (2, .val t3), (3, .val t3), (9, .val t3), (18, .val t36), (19, .val t3), (20, .val t3)], []⟩ (.block (.seq .leaf (.seq .leaf (.cond .leaf .leaf)))) .leaf)))))) (.seq .leaf .leaf))))
theorem l_k70 (x) : funI noU (tabT tab) noPhi Psi_k70 Try.f70 b_k70 ann_k70 (.prod t105 (.prod t3 (.prod t3 t3))) t3 x = S_parts_shop_fits fcFitsAt.sh fcIs.sh x := by kernel_rfl
theorem spec_k70 : FnSpec Try.prog 70 (.prod t105 (.prod t3 (.prod t3 t3))) t3 fcShopFits.sh :=
  fn_ok mixOk tabOk noU_ok noPhi_ok Psi_k70_ok Try.func70 b_k70_ok (by kernel_rfl) fun x => M.le_trans (M.le_of_eq (l_k70 x)) (sShopFits x)
noncomputable def b_k87 : Code := Try.f87.body.getD .skip
theorem b_k87_ok : Try.f87.body = some b_k87 := by kernel_rfl
noncomputable def Psi_k87 (k : Nat) : Option KC := if k = 79 then some (.sc ⟨(.prod t3 (.prod t3 t3)), t4, fcWithin.sh, true⟩) else none
theorem Psi_k87_ok : PsiOk Try.prog noU Psi_k87 := by
  intro k c h
  unfold Psi_k87 at h
  split at h
  · cases h; subst_vars; exact ⟨spec_k79, fun _ _ => M.det_det⟩
  cases h
def ann_k87 : Ann := (.seq .leaf (.seq .leaf .leaf))
theorem l_k87 (x) : funI noU (tabT tab) noPhi Psi_k87 Try.f87 b_k87 ann_k87 t3 t4 x = S_parts_begin_c1 fcWithin.sh x := by kernel_rfl
theorem spec_k87 : FnSpec Try.prog 87 t3 t4 fcBegin1.sh :=
  fn_ok mixOk tabOk noU_ok noPhi_ok Psi_k87_ok Try.func87 b_k87_ok (by kernel_rfl) fun x => M.le_trans (M.le_of_eq (l_k87 x)) (sBegin1 x)
noncomputable def b_k125 : Code := Try.f125.body.getD .skip
theorem b_k125_ok : Try.f125.body = some b_k125 := by kernel_rfl
noncomputable def Psi_k125 (k : Nat) : Option KC := none
theorem Psi_k125_ok : PsiOk Try.prog noU Psi_k125 := by
  intro k c h
  unfold Psi_k125 at h
  cases h
def ann_k125 : Ann := (.seq .leaf (.join ⟨[], []⟩ (.seq .leaf (.block (.loop ⟨[(0, .val t42), (1, .val t133), (7, .val t3), (8, .val t3)], []⟩ (.seq .leaf (.seq (.cond .leaf .leaf) (.seq (.block (.seq .leaf (.seq .leaf (.cond (.seq .leaf .leaf) .leaf)))) .leaf)))))) (.seq .leaf .leaf)))
theorem l_k125 (x) : funI noU (tabT tab) noPhi Psi_k125 Try.f125 b_k125 ann_k125 (.prod t42 t133) t3 x = S_slices_IndexFunc_api_Job_api_Job  x := by kernel_rfl
theorem spec_k125 : FnSpec Try.prog 125 (.prod t42 t133) t3 (fcIndexFunc t46).sh :=
  fn_ok mixOk tabOk noU_ok noPhi_ok Psi_k125_ok Try.func125 b_k125_ok (by kernel_rfl) fun x => M.le_trans (M.le_of_eq (l_k125 x)) (sIndexFunc t46 x)
noncomputable def b_k112 : Code := Try.f112.body.getD .skip
theorem b_k112_ok : Try.f112.body = some b_k112 := by kernel_rfl
noncomputable def Psi_k112 (k : Nat) : Option KC := if k = 125 then some (.sc ⟨(.prod t42 t133), t3, (fcIndexFunc t46).sh, true⟩) else none
theorem Psi_k112_ok : PsiOk Try.prog noU Psi_k112 := by
  intro k c h
  unfold Psi_k112 at h
  split at h
  · cases h; subst_vars; exact ⟨spec_k125, fun _ _ => M.det_det⟩
  cases h
def ann_k112 : Ann := (.seq .leaf (.seq .leaf .leaf))
theorem l_k112 (x) : funI noU (tabT tab) noPhi Psi_k112 Try.f112 b_k112 ann_k112 (.prod t42 t133) t4 x = S_slices_ContainsFunc_api_Job_api_Job (fcIndexFunc t46).sh x := by kernel_rfl
theorem spec_k112 : FnSpec Try.prog 112 (.prod t42 t133) t4 (fcContainsFunc t46).sh :=
  fn_ok mixOk tabOk noU_ok noPhi_ok Psi_k112_ok Try.func112 b_k112_ok (by kernel_rfl) fun x => M.le_trans (M.le_of_eq (l_k112 x)) (sContainsFunc t46 x)
noncomputable def b_k113 : Code := Try.f113.body.getD .skip
theorem b_k113_ok : Try.f113.body = some b_k113 := by kernel_rfl
noncomputable def Psi_k113 (k : Nat) : Option KC := none
theorem Psi_k113_ok : PsiOk Try.prog noU Psi_k113 := by
  intro k c h
  unfold Psi_k113 at h
  cases h
def ann_k113 : Ann := (.seq .leaf (.seq .leaf .leaf))
theorem l_k113 (x) : codeI noU (tabT tab) noPhi Psi_k113 ann_k113 b_k113 (capsSt 1 (parSt (.prod t46 (.ptr t133)) x)) (retI (tabT tab) Try.f113.results.toList t4) = S_parts_all_api_Job__c1  x := by kernel_rfl
theorem spec_k113 : FnSpec Try.prog 113 (.prod t46 (.ptr t133)) t4 (fcAllC1 t46).sh :=
  fnC_ok (n := 1) mixOk tabOk noU_ok noPhi_ok Psi_k113_ok Try.func113 b_k113_ok (by kernel_rfl) fun x => M.le_req (fun h => by obtain ⟨f, hf, _⟩ := h; exact caps_pre ⟨trivial, isSome_of hf⟩) (M.le_trans (M.le_of_eq (l_k113 x)) (sAllC1 t46 x))
noncomputable def b_k88 : Code := Try.f88.body.getD .skip
theorem b_k88_ok : Try.f88.body = some b_k88 := by kernel_rfl
noncomputable def U_k88 : FnTab := ⟨fun k => none, fun k => if k = 113 then some ⟨[t46], [t133], t4, (fcAllC1 t46).sh⟩ else none⟩
theorem U_k88_ok : FnTabOk Try.prog U_k88 where
  fnv := by
    intro k v h
    simp only [U_k88] at h
    cases h
  clv := by
    intro k v h
    simp only [U_k88] at h
    split at h
    · cases h; subst_vars; exact ⟨rfl, spec_k113⟩
    cases h
noncomputable def Psi_k88 (k : Nat) : Option KC := if k = 112 then some (.sc ⟨(.prod t42 t133), t4, (fcContainsFunc t46).sh, true⟩) else none
theorem Psi_k88_ok : PsiOk Try.prog U_k88 Psi_k88 := by
  intro k c h
  unfold Psi_k88 at h
  split at h
  · cases h; subst_vars; exact ⟨spec_k112, fun _ _ => M.det_det⟩
  cases h
def ann_k88 : Ann := (.seq .leaf (.seq .leaf .leaf))
theorem l_k88 (x) : funI U_k88 (tabT tab) noPhi Psi_k88 Try.f88 b_k88 ann_k88 (.prod t42 t133) t4 x = S_parts_all_api_Job (fcContainsFunc t46).sh (fcAllC1 t46).sh x := by kernel_rfl
theorem spec_k88 : FnSpec Try.prog 88 (.prod t42 t133) t4 (fcAllF t46).sh :=
  fn_ok mixOk tabOk U_k88_ok noPhi_ok Psi_k88_ok Try.func88 b_k88_ok (by kernel_rfl) fun x => M.le_trans (M.le_of_eq (l_k88 x)) (sAllF t46 x)
noncomputable def b_k89 : Code := Try.f89.body.getD .skip
theorem b_k89_ok : Try.f89.body = some b_k89 := by kernel_rfl
noncomputable def Psi_k89 (k : Nat) : Option KC := if k = 69 then some (.sc ⟨(.prod t26 (.prod t3 t3)), t4, fcIsSlotOf.sh, true⟩) else none
theorem Psi_k89_ok : PsiOk Try.prog noU Psi_k89 := by
  intro k c h
  unfold Psi_k89 at h
  split at h
  · cases h; subst_vars; exact ⟨spec_k69, fun _ _ => M.det_det⟩
  cases h
def ann_k89 : Ann := (.seq .leaf (.seq .leaf .leaf))
theorem l_k89 (x) : codeI noU (tabT tab) noPhi Psi_k89 ann_k89 b_k89 (capsSt 1 (parSt (.prod t46 (.ptr t26)) x)) (retI (tabT tab) Try.f89.results.toList t4) = S_parts_begin_c2 fcIsSlotOf.sh x := by kernel_rfl
theorem spec_k89 : FnSpec Try.prog 89 (.prod t46 (.ptr t26)) t4 fcBegin2.sh :=
  fnC_ok (n := 1) mixOk tabOk noU_ok noPhi_ok Psi_k89_ok Try.func89 b_k89_ok (by kernel_rfl) fun x => M.le_req (fun h => by obtain ⟨f, hf, _⟩ := h; exact caps_pre ⟨trivial, isSome_of hf⟩) (M.le_trans (M.le_of_eq (l_k89 x)) (sBegin2 x))
noncomputable def b_k127 : Code := Try.f127.body.getD .skip
theorem b_k127_ok : Try.f127.body = some b_k127 := by kernel_rfl
noncomputable def Psi_k127 (k : Nat) : Option KC := none
theorem Psi_k127_ok : PsiOk Try.prog noU Psi_k127 := by
  intro k c h
  unfold Psi_k127 at h
  cases h
def ann_k127 : Ann := (.seq .leaf (.seq .leaf (.seq .leaf (.seq .leaf (.seq .leaf (.seq .leaf (.seq .leaf (.seq .leaf (.seq .leaf (.seq .leaf (.seq .leaf (.seq .leaf .leaf))))))))))))
theorem l_k127 (x) : funI noU (tabT tab) noPhi Psi_k127 Try.f127 b_k127 ann_k127 (.prod t131 t131) (.prod t131 t131) x = S_math_bits_Mul64  x := by kernel_rfl
theorem spec_k127 : FnSpec Try.prog 127 (.prod t131 t131) (.prod t131 t131) fcMul.sh :=
  fn_ok mixOk tabOk noU_ok noPhi_ok Psi_k127_ok Try.func127 b_k127_ok (by kernel_rfl) fun x => M.le_trans (M.le_of_eq (l_k127 x)) (sMul64 x)
noncomputable def b_k114 : Code := Try.f114.body.getD .skip
theorem b_k114_ok : Try.f114.body = some b_k114 := by kernel_rfl
noncomputable def Psi_k114 (k : Nat) : Option KC := if k = 127 then some (.sc ⟨(.prod t131 t131), (.prod t131 t131), fcMul.sh, true⟩) else none
theorem Psi_k114_ok : PsiOk Try.prog noU Psi_k114 := by
  intro k c h
  unfold Psi_k114 at h
  split at h
  · cases h; subst_vars; exact ⟨spec_k127, fun _ _ => M.det_det⟩
  cases h
def ann_k114 : Ann := (.seq .leaf (.seq (.cond (.seq .leaf (.seq .leaf .leaf)) .leaf) (.seq .leaf (.seq .leaf .leaf))))
theorem l_k114 (x) : funI noU (tabT tab) noPhi Psi_k114 Try.f114 b_k114 ann_k114 (.prod t92 t92) (.prod t92 t92) x = S_math_bits_Mul (fun _ => M.fail) fcMul.sh x := by kernel_rfl
theorem spec_k114 : FnSpec Try.prog 114 (.prod t92 t92) (.prod t92 t92) fcMul.sh :=
  fn_ok mixOk tabOk noU_ok noPhi_ok Psi_k114_ok Try.func114 b_k114_ok (by kernel_rfl) fun x => M.le_trans (M.le_of_eq (l_k114 x)) (sMul (fun _ => M.fail) x)
noncomputable def b_krepeat : Code := Try.f90.body.getD .skip
theorem b_krepeat_ok : Try.f90.body = some b_krepeat := by kernel_rfl
noncomputable def U_k60 : FnTab := ⟨fun k => if k = 87 then some ⟨t3, t4, fcBegin1.sh⟩ else none, fun k => if k = 89 then some ⟨[t46], [t26], t4, fcBegin2.sh⟩ else none⟩
noncomputable def Psi_krepeat (k : Nat) : Option KC := if k = 114 then some (.sc ⟨(.prod t92 t92), (.prod t92 t92), fcMul.sh, true⟩) else none
theorem Psi_krepeat_ok : PsiOk Try.prog U_k60 Psi_krepeat := by
  intro k c h
  unfold Psi_krepeat at h
  split at h
  · cases h; subst_vars; exact ⟨spec_k114, fun _ _ => M.det_det⟩
  cases h
noncomputable def ioc_repeat : IOC := ⟨⟨[(0, .val t36), (1, .val t3)], []⟩, ⟨[(0, .own 30)], [(30, .arr t3)]⟩, [none], 2, shRepeat⟩
def ann_krepeat : Ann := (.seq .leaf (.join ⟨[(0, .val t36), (1, .val t3)], []⟩ (.seq .leaf (.cond .leaf .leaf)) (.seq .leaf (.join ⟨[(0, .val t36), (6, .val t92)], []⟩ (.seq .leaf (.cond .leaf .leaf)) (.seq .leaf (.seq .leaf (.join ⟨[(7, .own 30)], [(30, .arr t3)]⟩ (.block (.loop ⟨[(7, .own 30), (8, .val t3)], [(30, .arr t3)]⟩ (.seq (.seq .leaf (.cond .leaf .leaf)) (.block .leaf)))) (.seq .leaf .leaf))))))))
theorem l_krepeat (x) : funIO U_k60 (tabT tab) noPhi Psi_krepeat Try.f90 b_krepeat ann_krepeat ⟨[(0, .val t36), (1, .val t3)], []⟩ ⟨[(0, .own 30)], [(30, .arr t3)]⟩ [none] x = S_slices_Repeat fcMul.sh x := by kernel_rfl
theorem io_repeat : IoSpec Try.prog U_k60 90 ioc_repeat :=
  fnIO_ok mixOk tabOk noPhi_ok Psi_krepeat_ok Try.func90 b_krepeat_ok (by kernel_rfl) fun x => M.le_trans (M.le_of_eq (l_krepeat x)) (sRepeat x)
noncomputable def b_kholdersIO : Code := Try.f61.body.getD .skip
theorem b_kholdersIO_ok : Try.f61.body = some b_kholdersIO := by kernel_rfl
noncomputable def Psi_kholdersIO (k : Nat) : Option KC := none
theorem Psi_kholdersIO_ok : PsiOk Try.prog U_k60 Psi_kholdersIO := by
  intro k c h
  unfold Psi_kholdersIO at h
  cases h
noncomputable def ioc_holdersIO : IOC := ⟨⟨[(0, .loc 100000 0), (1, .val t3)], [(100000, .cells t125 [.val t108, .val t36, .own 100001]), (100001, .arr t3)]⟩, ⟨[(0, .own 5)], [(5, .arr t3), (100000, .cells t125 [.val t108, .val t36, .own 100001]), (100001, .arr t3)]⟩, [none], 2, shHoldersIO⟩
def ann_kholdersIO : Ann := (.seq .leaf (.seq .leaf (.join ⟨[(5, .own 5)], [(5, .arr t3), (100000, .cells t125 [.val t108, .val t36, .own 100001]), (100001, .arr t3)]⟩ (.seq .leaf (.block (.loop ⟨[(1, .val t3), (5, .own 5), (11, .own 100001), (12, .val t3), (13, .val t3)], [(5, .arr t3), (100000, .cells t125 [.val t108, .val t36, .own 100001]), (100001, .arr t3)]⟩ (.seq .leaf (.seq (.cond .leaf .leaf) (.join ⟨[(1, .val t3), (5, .own 5), (11, .own 100001), (12, .val t3), (13, .val t3)], [(5, .arr t3), (100000, .cells t125 [.val t108, .val t36, .own 100001]), (100001, .arr t3)]⟩ (.block (.seq .leaf (.seq .leaf (.cond .leaf .leaf)))) .leaf)))))) (.seq .leaf .leaf))))
theorem l_kholdersIO (x) : funIO U_k60 (tabT tab) noPhi Psi_kholdersIO Try.f61 b_kholdersIO ann_kholdersIO ⟨[(0, .loc 100000 0), (1, .val t3)], [(100000, .cells t125 [.val t108, .val t36, .own 100001]), (100001, .arr t3)]⟩ ⟨[(0, .own 5)], [(5, .arr t3), (100000, .cells t125 [.val t108, .val t36, .own 100001]), (100001, .arr t3)]⟩ [none] x = S_parts_task_holdersIO  x := by kernel_rfl
theorem io_holdersIO : IoSpec Try.prog U_k60 61 ioc_holdersIO :=
  fnIO_ok mixOk tabOk noPhi_ok Psi_kholdersIO_ok Try.func61 b_kholdersIO_ok (by kernel_rfl) fun x => M.le_trans (M.le_of_eq (l_kholdersIO x)) (sHoldersIO x)
noncomputable def b_kgive : Code := Try.f91.body.getD .skip
theorem b_kgive_ok : Try.f91.body = some b_kgive := by kernel_rfl
noncomputable def ioc_give (f : Nat) : IOC := ⟨⟨[(0, .loc 100000 0), (1, .val t3), (2, .mapl 100002)], [(100000, .cells t125 [.val t108, .val t36, .own 100001]), (100001, .arr t3), (100002, .mp t3 t3)]⟩, ⟨[(0, .val t4)], [(100000, .cells t125 [.val t108, .val t36, .own 100001]), (100001, .arr t3), (100002, .mp t3 t3)]⟩, [none], 3, shGive f⟩
noncomputable def Psi_kgive (f : Nat) (k : Nat) : Option KC := if k = 61 then some (.io ioc_holdersIO) else if k = 91 then some (.io (ioc_give f)) else none
theorem Psi_kgive_ok (f : Nat) (ih : IoSpec Try.prog U_k60 91 (ioc_give f)) : PsiOk Try.prog U_k60 (Psi_kgive f) := by
  intro k c h
  unfold Psi_kgive at h
  split at h
  · cases h; subst_vars; exact io_holdersIO
  split at h
  · cases h; subst_vars; exact ih
  cases h
def ann_kgive : Ann := (.seq .leaf (.join ⟨[], [(100000, .cells t125 [.val t108, .val t36, .own 100001]), (100001, .arr t3), (100002, .mp t3 t3)]⟩ (.seq .leaf (.block (.loop ⟨[(0, .loc 100000 0), (1, .val t3), (2, .mapl 100002), (18, .val t36), (19, .val t3), (20, .val t3)], [(100000, .cells t125 [.val t108, .val t36, .own 100001]), (100001, .arr t3), (100002, .mp t3 t3)]⟩ (.seq .leaf (.seq (.cond .leaf .leaf) (.join ⟨[(0, .loc 100000 0), (1, .val t3), (2, .mapl 100002), (18, .val t36), (19, .val t3), (20, .val t3)], [(100000, .cells t125 [.val t108, .val t36, .own 100001]), (100001, .arr t3), (100002, .mp t3 t3)]⟩ (.block (.seq .leaf (.seq (.seq .leaf (.seq .leaf (.cond .leaf .leaf))) (.seq .leaf (.seq (.seq .leaf (.cond (.seq .leaf (.seq .leaf .leaf)) .leaf)) (.seq .leaf (.block (.loop ⟨[(0, .loc 100000 0), (1, .val t3), (2, .mapl 100002), (8, .val t3), (18, .val t36), (19, .val t3), (20, .val t3), (52, .own 50340), (53, .val t3), (54, .val t3)], [(50340, .arr t3), (100000, .cells t125 [.val t108, .val t36, .own 100001]), (100001, .arr t3), (100002, .mp t3 t3)]⟩ (.seq .leaf (.seq (.cond .leaf .leaf) (.seq (.block (.seq .leaf (.seq .leaf (.cond (.seq .leaf (.seq .leaf .leaf)) .leaf)))) .leaf))))))))))) .leaf)))))) (.seq .leaf .leaf)))
theorem l_kgive (f : Nat) (x) : funIO U_k60 (tabT tab) noPhi (Psi_kgive f) Try.f91 b_kgive ann_kgive ⟨[(0, .loc 100000 0), (1, .val t3), (2, .mapl 100002)], [(100000, .cells t125 [.val t108, .val t36, .own 100001]), (100001, .arr t3), (100002, .mp t3 t3)]⟩ ⟨[(0, .val t4)], [(100000, .cells t125 [.val t108, .val t36, .own 100001]), (100001, .arr t3), (100002, .mp t3 t3)]⟩ [none] x = S_parts_task_give shHoldersIO (shGive f) x := by kernel_rfl
theorem io_give : ∀ f, IoSpec Try.prog U_k60 91 (ioc_give f)
  | 0 => fnIO_ok mixOk tabOk noPhi_ok (Ψ := fun _ => none) (fun k c h => by cases h) (ann := ann_kgive) Try.func91 b_kgive_ok (by kernel_rfl) fun x hs => absurd hs (shGive_zero x)
  | f + 1 => fnIO_ok mixOk tabOk noPhi_ok (Psi_kgive_ok f (io_give f)) Try.func91 b_kgive_ok (by kernel_rfl) fun x => M.le_trans (M.le_of_eq (l_kgive f x)) (sGive f x)
noncomputable def b_k60 : Code := Try.f60.body.getD .skip
theorem b_k60_ok : Try.f60.body = some b_k60 := by kernel_rfl
theorem U_k60_ok : FnTabOk Try.prog U_k60 where
  fnv := by
    intro k v h
    simp only [U_k60] at h
    split at h
    · cases h; subst_vars; exact spec_k87
    cases h
  clv := by
    intro k v h
    simp only [U_k60] at h
    split at h
    · cases h; subst_vars; exact ⟨rfl, spec_k89⟩
    cases h
noncomputable def Psi_k60 (k : Nat) : Option KC := if k = 65 then some (.sc ⟨(.prod t26 t4), (.prod t105 t33), fcOpen.sh, true⟩) else if k = 70 then some (.sc ⟨(.prod t105 (.prod t3 (.prod t3 t3))), t3, fcShopFits.sh, true⟩) else if k = 77 then some (.sc ⟨(.prod t36 t119), t4, (fcAllF t3).sh, true⟩) else if k = 88 then some (.sc ⟨(.prod t42 t133), t4, (fcAllF t46).sh, true⟩) else if k = 90 then some (.io ioc_repeat) else if k = 91 then some (.io (ioc_give 11)) else none
theorem Psi_k60_ok : PsiOk Try.prog U_k60 Psi_k60 := by
  intro k c h
  unfold Psi_k60 at h
  split at h
  · cases h; subst_vars; exact ⟨spec_k65, fun _ _ => M.det_det⟩
  split at h
  · cases h; subst_vars; exact ⟨spec_k70, fun _ _ => M.det_det⟩
  split at h
  · cases h; subst_vars; exact ⟨spec_k77, fun _ _ => M.det_det⟩
  split at h
  · cases h; subst_vars; exact ⟨spec_k88, fun _ _ => M.det_det⟩
  split at h
  · cases h; subst_vars; exact io_repeat
  split at h
  · cases h; subst_vars; exact io_give 11
  cases h
def ann_k60 : Ann := (.seq .leaf (.seq .leaf (.seq .leaf (.seq (.seq .leaf (.cond (.seq .leaf .leaf) .leaf)) (.seq .leaf (.join ⟨[(2, .val t42), (11, .loc 52 0)], [(52, .cells t125 [.own 85, .val t36, .own 50500]), (85, .arr t36), (50500, .arr t3)]⟩ (.seq .leaf (.block (.loop ⟨[(2, .val t42), (3, .loc 3 0), (9, .val t105), (11, .loc 52 0), (53, .val t42), (54, .val t3), (55, .val t3)], [(3, .frzc t26), (52, .cells t125 [.own 85, .val t36, .own 50500]), (85, .arr t36), (50500, .arr t3)]⟩ (.seq .leaf (.seq (.cond .leaf .leaf) (.join ⟨[(2, .val t42), (3, .loc 3 0), (9, .val t105), (11, .loc 52 0), (53, .val t42), (54, .val t3), (55, .val t3)], [(3, .frzc t26), (52, .cells t125 [.own 85, .val t36, .own 50500]), (85, .arr t36), (50500, .arr t3)]⟩ (.block (.seq .leaf (.seq .leaf (.join ⟨[(2, .val t42), (3, .loc 3 0), (9, .val t105), (11, .loc 52 0), (14, .own 14), (53, .val t42), (54, .val t3), (55, .val t3)], [(3, .frzc t26), (14, .arr t3), (52, .cells t125 [.own 85, .val t36, .own 50500]), (85, .arr t36), (50500, .arr t3)]⟩ (.seq .leaf (.block (.loop ⟨[(2, .val t42), (3, .loc 3 0), (9, .val t105), (11, .loc 52 0), (13, .loc 13 0), (14, .own 14), (53, .val t42), (54, .val t3), (55, .val t3), (61, .val t3), (62, .val t3)], [(3, .frzc t26), (13, .whole t28), (14, .arr t3), (52, .cells t125 [.own 85, .val t36, .own 50500]), (85, .arr t36), (50500, .arr t3)]⟩ (.seq .leaf (.seq (.cond .leaf .leaf) (.join ⟨[(2, .val t42), (3, .loc 3 0), (9, .val t105), (11, .loc 52 0), (13, .loc 13 0), (14, .own 14), (53, .val t42), (54, .val t3), (55, .val t3), (61, .val t3), (62, .val t3)], [(3, .frzc t26), (13, .whole t28), (14, .arr t3), (52, .cells t125 [.own 85, .val t36, .own 50500]), (85, .arr t36), (50500, .arr t3)]⟩ (.block (.seq .leaf (.seq .leaf (.cond .leaf .leaf)))) .leaf)))))) .leaf)))) .leaf)))))) (.join ⟨[(11, .loc 52 0)], [(52, .cells t125 [.val t108, .val t36, .own 50500]), (50500, .arr t3)]⟩ (.seq .leaf (.block (.loop ⟨[(11, .loc 52 0), (90, .val t3), (91, .val t3)], [(52, .cells t125 [.val t108, .val t36, .own 50500]), (50500, .arr t3)]⟩ (.seq .leaf (.seq (.cond .leaf .leaf) (.seq (.block (.seq .leaf .leaf)) .leaf)))))) (.seq .leaf .leaf))))))))
theorem l_k60 (x) : funI U_k60 (tabT tab) noPhi Psi_k60 Try.f60 b_k60 ann_k60 (.prod t26 (.prod t36 t42)) (.prod t97 t33) x = S_parts_begin fcOpen.sh fcShopFits.sh (fcAllF t3).sh (fcAllF t46).sh shRepeat (shGive 11) fcBegin2.sh fcBegin1.sh x := by kernel_rfl
theorem spec_k60 : FnSpec Try.prog 60 (.prod t26 (.prod t36 t42)) (.prod t97 t33) fcBegin.sh :=
  fn_ok mixOk tabOk U_k60_ok noPhi_ok Psi_k60_ok Try.func60 b_k60_ok (by kernel_rfl) fun x => M.le_trans (M.le_of_eq (l_k60 x)) (sBegin x)
noncomputable def b_k61 : Code := Try.f61.body.getD .skip
theorem b_k61_ok : Try.f61.body = some b_k61 := by kernel_rfl
noncomputable def Psi_k61 (k : Nat) : Option KC := none
theorem Psi_k61_ok : PsiOk Try.prog noU Psi_k61 := by
  intro k c h
  unfold Psi_k61 at h
  cases h
def ann_k61 : Ann := (.seq .leaf (.seq .leaf (.join ⟨[(5, .own 5)], [(5, .arr t3)]⟩ (.seq .leaf (.block (.loop ⟨[(1, .val t3), (5, .own 5), (11, .val t36), (12, .val t3), (13, .val t3)], [(5, .arr t3)]⟩ (.seq .leaf (.seq (.cond .leaf .leaf) (.join ⟨[(1, .val t3), (5, .own 5), (11, .val t36), (12, .val t3), (13, .val t3)], [(5, .arr t3)]⟩ (.block (.seq .leaf (.seq .leaf (.cond .leaf .leaf)))) .leaf)))))) (.seq .leaf .leaf))))
theorem l_k61 (x) : funI noU (tabT tab) noPhi Psi_k61 Try.f61 b_k61 ann_k61 (.prod t97 t3) t36 x = S_parts_task_holders  x := by kernel_rfl
theorem spec_k61 : FnSpec Try.prog 61 (.prod t97 t3) t36 fcHolders.sh :=
  fn_ok mixOk tabOk noU_ok noPhi_ok Psi_k61_ok Try.func61 b_k61_ok (by kernel_rfl) fun x => M.le_trans (M.le_of_eq (l_k61 x)) (sHolders x)
noncomputable def b_k21 : Code := Try.f21.body.getD .skip
theorem b_k21_ok : Try.f21.body = some b_k21 := by kernel_rfl
noncomputable def Psi_k21 (k : Nat) : Option KC := if k = 60 then some (.sc ⟨(.prod t26 (.prod t36 t42)), (.prod t97 t33), fcBegin.sh, true⟩) else if k = 61 then some (.sc ⟨(.prod t97 t3), t36, fcHolders.sh, true⟩) else none
theorem Psi_k21_ok : PsiOk Try.prog noU Psi_k21 := by
  intro k c h
  unfold Psi_k21 at h
  split at h
  · cases h; subst_vars; exact ⟨spec_k60, fun _ _ => M.det_det⟩
  split at h
  · cases h; subst_vars; exact ⟨spec_k61, fun _ _ => M.det_det⟩
  cases h
def ann_k21 : Ann := (.seq .leaf (.seq .leaf (.seq (.seq .leaf (.cond (.seq .leaf .leaf) .leaf)) (.seq .leaf .leaf))))
theorem l_k21 (x) : funI noU (tabT tab) noPhi Psi_k21 Try.f21 b_k21 ann_k21 (.prod t26 (.prod t36 t42)) (.prod t3 t33) x = S_parts_Most fcBegin.sh fcHolders.sh x := by kernel_rfl
theorem spec_k21 : FnSpec Try.prog 21 (.prod t26 (.prod t36 t42)) (.prod t3 t33) fcPMost.sh :=
  fn_ok mixOk tabOk noU_ok noPhi_ok Psi_k21_ok Try.func21 b_k21_ok (by kernel_rfl) fun x => M.le_trans (M.le_of_eq (l_k21 x)) (sPMost x)
noncomputable def b_k27 : Code := Try.f27.body.getD .skip
theorem b_k27_ok : Try.f27.body = some b_k27 := by kernel_rfl
noncomputable def Psi_k27 (k : Nat) : Option KC := if k = 65 then some (.sc ⟨(.prod t26 t4), (.prod t105 t33), fcOpen.sh, true⟩) else if k = 66 then some (.sc ⟨(.prod t26 t3), t4, fcIsSpare.sh, true⟩) else none
theorem Psi_k27_ok : PsiOk Try.prog noU Psi_k27 := by
  intro k c h
  unfold Psi_k27 at h
  split at h
  · cases h; subst_vars; exact ⟨spec_k65, fun _ _ => M.det_det⟩
  split at h
  · cases h; subst_vars; exact ⟨spec_k66, fun _ _ => M.det_det⟩
  cases h
def ann_k27 : Ann := (.seq .leaf (.seq .leaf (.seq (.seq .leaf (.cond (.seq .leaf .leaf) .leaf)) (.seq .leaf (.seq .leaf .leaf)))))
theorem l_k27 (x) : funI noU (tabT tab) noPhi Psi_k27 Try.f27 b_k27 ann_k27 (.prod t26 t3) (.prod t28 t33) x = S_parts_Length fcOpen.sh fcIsSpare.sh x := by kernel_rfl
theorem spec_k27 : FnSpec Try.prog 27 (.prod t26 t3) (.prod t28 t33) fcLength.sh :=
  fn_ok mixOk tabOk noU_ok noPhi_ok Psi_k27_ok Try.func27 b_k27_ok (by kernel_rfl) fun x => M.le_trans (M.le_of_eq (l_k27 x)) (sPLength x)
noncomputable def b_k29 : Code := Try.f29.body.getD .skip
theorem b_k29_ok : Try.f29.body = some b_k29 := by kernel_rfl
noncomputable def Psi_k29 (k : Nat) : Option KC := if k = 65 then some (.sc ⟨(.prod t26 t4), (.prod t105 t33), fcOpen.sh, true⟩) else if k = 66 then some (.sc ⟨(.prod t26 t3), t4, fcIsSpare.sh, true⟩) else if k = 69 then some (.sc ⟨(.prod t26 (.prod t3 t3)), t4, fcIsSlotOf.sh, true⟩) else if k = 70 then some (.sc ⟨(.prod t105 (.prod t3 (.prod t3 t3))), t3, fcShopFits.sh, true⟩) else none
theorem Psi_k29_ok : PsiOk Try.prog noU Psi_k29 := by
  intro k c h
  unfold Psi_k29 at h
  split at h
  · cases h; subst_vars; exact ⟨spec_k65, fun _ _ => M.det_det⟩
  split at h
  · cases h; subst_vars; exact ⟨spec_k66, fun _ _ => M.det_det⟩
  split at h
  · cases h; subst_vars; exact ⟨spec_k69, fun _ _ => M.det_det⟩
  split at h
  · cases h; subst_vars; exact ⟨spec_k70, fun _ _ => M.det_det⟩
  cases h
def ann_k29 : Ann := (.seq .leaf (.seq .leaf (.seq (.seq .leaf (.cond (.seq .leaf .leaf) .leaf)) (.seq .leaf .leaf))))
theorem l_k29 (x) : funI noU (tabT tab) noPhi Psi_k29 Try.f29 b_k29 ann_k29 (.prod t26 (.prod t3 (.prod t3 t3))) (.prod t3 t33) x = S_parts_Fits fcOpen.sh fcIsSpare.sh fcIsSlotOf.sh fcShopFits.sh x := by kernel_rfl
theorem spec_k29 : FnSpec Try.prog 29 (.prod t26 (.prod t3 (.prod t3 t3))) (.prod t3 t33) fcFits.sh :=
  fn_ok mixOk tabOk noU_ok noPhi_ok Psi_k29_ok Try.func29 b_k29_ok (by kernel_rfl) fun x => M.le_trans (M.le_of_eq (l_k29 x)) (sPFitsR x)
noncomputable def b_k78 : Code := Try.f78.body.getD .skip
theorem b_k78_ok : Try.f78.body = some b_k78 := by kernel_rfl
noncomputable def Psi_k78 (k : Nat) : Option KC := if k = 66 then some (.sc ⟨(.prod t26 t3), t4, fcIsSpare.sh, true⟩) else none
theorem Psi_k78_ok : PsiOk Try.prog noU Psi_k78 := by
  intro k c h
  unfold Psi_k78 at h
  split at h
  · cases h; subst_vars; exact ⟨spec_k66, fun _ _ => M.det_det⟩
  cases h
def ann_k78 : Ann := (.seq .leaf (.seq .leaf .leaf))
theorem l_k78 (x) : codeI noU (tabT tab) noPhi Psi_k78 ann_k78 b_k78 (capsSt 1 (parSt (.prod t3 (.ptr t26)) x)) (retI (tabT tab) Try.f78.results.toList t4) = S_parts_Mends_c1 fcIsSpare.sh x := by kernel_rfl
theorem spec_k78 : FnSpec Try.prog 78 (.prod t3 (.ptr t26)) t4 fcMendsC.sh :=
  fnC_ok (n := 1) mixOk tabOk noU_ok noPhi_ok Psi_k78_ok Try.func78 b_k78_ok (by kernel_rfl) fun x => M.le_req (fun h => by obtain ⟨f, hf, _⟩ := h; exact caps_pre ⟨trivial, isSome_of hf⟩) (M.le_trans (M.le_of_eq (l_k78 x)) (sMendsC x))
noncomputable def b_k36 : Code := Try.f36.body.getD .skip
theorem b_k36_ok : Try.f36.body = some b_k36 := by kernel_rfl
noncomputable def U_k36 : FnTab := ⟨fun k => none, fun k => if k = 78 then some ⟨[t3], [t26], t4, fcMendsC.sh⟩ else none⟩
theorem U_k36_ok : FnTabOk Try.prog U_k36 where
  fnv := by
    intro k v h
    simp only [U_k36] at h
    cases h
  clv := by
    intro k v h
    simp only [U_k36] at h
    split at h
    · cases h; subst_vars; exact ⟨rfl, spec_k78⟩
    cases h
noncomputable def Psi_k36 (k : Nat) : Option KC := if k = 65 then some (.sc ⟨(.prod t26 t4), (.prod t105 t33), fcOpen.sh, true⟩) else if k = 76 then some (.sc ⟨t36, t4, fcAscending.sh, true⟩) else if k = 77 then some (.sc ⟨(.prod t36 t119), t4, (fcAllF t3).sh, true⟩) else if k = 79 then some (.sc ⟨(.prod t3 (.prod t3 t3)), t4, fcWithin.sh, true⟩) else if k = 80 then some (.sc ⟨(.prod t105 (.prod t36 t3)), t3, fcShopMends.sh, true⟩) else none
theorem Psi_k36_ok : PsiOk Try.prog U_k36 Psi_k36 := by
  intro k c h
  unfold Psi_k36 at h
  split at h
  · cases h; subst_vars; exact ⟨spec_k65, fun _ _ => M.det_det⟩
  split at h
  · cases h; subst_vars; exact ⟨spec_k76, fun _ _ => M.det_det⟩
  split at h
  · cases h; subst_vars; exact ⟨spec_k77, fun _ _ => M.det_det⟩
  split at h
  · cases h; subst_vars; exact ⟨spec_k79, fun _ _ => M.det_det⟩
  split at h
  · cases h; subst_vars; exact ⟨spec_k80, fun _ _ => M.det_det⟩
  cases h
def ann_k36 : Ann := (.seq .leaf (.seq .leaf (.seq .leaf (.seq (.seq .leaf (.cond (.seq .leaf .leaf) .leaf)) (.seq .leaf .leaf)))))
theorem l_k36 (x) : funI U_k36 (tabT tab) noPhi Psi_k36 Try.f36 b_k36 ann_k36 (.prod t26 (.prod t36 t3)) (.prod t3 t33) x = S_parts_Mends fcOpen.sh fcAscending.sh (fcAllF t3).sh fcWithin.sh fcShopMends.sh fcMendsC.sh x := by kernel_rfl
theorem spec_k36 : FnSpec Try.prog 36 (.prod t26 (.prod t36 t3)) (.prod t3 t33) fcMends.sh :=
  fn_ok mixOk tabOk U_k36_ok noPhi_ok Psi_k36_ok Try.func36 b_k36_ok (by kernel_rfl) fun x => M.le_trans (M.le_of_eq (l_k36 x)) (sPMends x)
noncomputable def b_k34 : Code := Try.f34.body.getD .skip
theorem b_k34_ok : Try.f34.body = some b_k34 := by kernel_rfl
noncomputable def Psi_k34 (k : Nat) : Option KC := if k = 56 then some (.sc ⟨t26, (.prod t88 t33), fcFewSets.sh, true⟩) else if k = 58 then some (.sc ⟨t92, t36, fcList.sh, true⟩) else none
theorem Psi_k34_ok : PsiOk Try.prog noU Psi_k34 := by
  intro k c h
  unfold Psi_k34 at h
  split at h
  · cases h; subst_vars; exact ⟨spec_k56, fun _ _ => M.det_det⟩
  split at h
  · cases h; subst_vars; exact ⟨spec_k58, fun _ _ => M.det_det⟩
  cases h
def ann_k34 : Ann := (.seq .leaf (.seq .leaf (.seq (.seq .leaf (.cond (.seq .leaf .leaf) .leaf)) (.seq .leaf .leaf))))
theorem l_k34 (x) : funI noU (tabT tab) noPhi Psi_k34 Try.f34 b_k34 ann_k34 t26 (.prod t36 t33) x = S_parts_Keep fcFewSets.sh fcList.sh x := by kernel_rfl
theorem spec_k34 : FnSpec Try.prog 34 t26 (.prod t36 t33) fcKeep.sh :=
  fn_ok mixOk tabOk noU_ok noPhi_ok Psi_k34_ok Try.func34 b_k34_ok (by kernel_rfl) fun x => M.le_trans (M.le_of_eq (l_k34 x)) (sKeep x)
end Go.Fer.Sk
namespace Go.Fer.Sk
open Go.Proofs
open M (Step)
set_option maxRecDepth 100000
set_option linter.unusedVariables false
set_option linter.unusedSimpArgs false
noncomputable def b_k23 : Code := Try.f23.body.getD .skip
theorem b_k23_ok : Try.f23.body = some b_k23 := by kernel_rfl
noncomputable def Psi_k23 (k : Nat) : Option KC := none
theorem Psi_k23_ok : PsiOk Try.prog noU Psi_k23 := by
  intro k c h
  unfold Psi_k23 at h
  cases h
def ann_k23 : Ann := (.seq .leaf (.seq (.seq .leaf (.cond (.seq .leaf .leaf) .leaf)) (.join ⟨[], []⟩ (.seq .leaf (.block (.loop ⟨[(0, .val t36), (1, .val t36), (5, .val t3)], []⟩ (.seq (.seq .leaf (.cond .leaf .leaf)) (.seq (.block (.seq .leaf (.cond (.seq .leaf .leaf) .leaf))) .leaf))))) (.seq .leaf .leaf))))
theorem l_k23 (x) : funI noU (tabT tab) noPhi Psi_k23 Try.f23 b_k23 ann_k23 (.prod t36 t36) t4 x = S_law07_sameInts  x := by kernel_rfl
theorem spec_k23 : FnSpec Try.prog 23 (.prod t36 t36) t4 fcSameInts.sh :=
  fn_ok mixOk tabOk noU_ok noPhi_ok Psi_k23_ok Try.func23 b_k23_ok (by kernel_rfl) fun x => M.le_trans (M.le_of_eq (l_k23 x)) (sSameInts x)
noncomputable def b_k54 : Code := Try.f54.body.getD .skip
theorem b_k54_ok : Try.f54.body = some b_k54 := by kernel_rfl
noncomputable def Psi_k54 (k : Nat) : Option KC := none
theorem Psi_k54_ok : PsiOk Try.prog noU Psi_k54 := by
  intro k c h
  unfold Psi_k54 at h
  cases h
def ann_k54 : Ann := (.seq .leaf (.seq .leaf .leaf))
theorem l_k54 (x) : funI noU (tabT tab) noPhi Psi_k54 Try.f54 b_k54 ann_k54 .unit t26 x = S_law07_Example  x := by kernel_rfl
theorem spec_k54 : FnSpec Try.prog 54 .unit t26 fcExample.sh :=
  fn_ok mixOk tabOk noU_ok noPhi_ok Psi_k54_ok Try.func54 b_k54_ok (by kernel_rfl) fun x => M.le_trans (M.le_of_eq (l_k54 x)) (sExample x)
noncomputable def b_k55 : Code := Try.f55.body.getD .skip
theorem b_k55_ok : Try.f55.body = some b_k55 := by kernel_rfl
noncomputable def Psi_k55 (k : Nat) : Option KC := none
theorem Psi_k55_ok : PsiOk Try.prog noU Psi_k55 := by
  intro k c h
  unfold Psi_k55 at h
  cases h
def ann_k55 : Ann := (.seq .leaf (.seq .leaf .leaf))
theorem l_k55 (x) : funI noU (tabT tab) noPhi Psi_k55 Try.f55 b_k55 ann_k55 .unit t42 x = S_law07_Jobs  x := by kernel_rfl
theorem spec_k55 : FnSpec Try.prog 55 .unit t42 fcJobs.sh :=
  fn_ok mixOk tabOk noU_ok noPhi_ok Psi_k55_ok Try.func55 b_k55_ok (by kernel_rfl) fun x => M.le_trans (M.le_of_eq (l_k55 x)) (sJobs x)
noncomputable def b_k14 : Code := Try.f14.body.getD .skip
theorem b_k14_ok : Try.f14.body = some b_k14 := by kernel_rfl
noncomputable def Psi_k14 (k : Nat) : Option KC := if k = 15 then some (.sc ⟨t26, (.prod t3 t33), fcPFewest.sh, true⟩) else if k = 16 then some (.sc ⟨t26, (.prod t36 t33), fcPNeeded.sh, true⟩) else if k = 21 then some (.sc ⟨(.prod t26 (.prod t36 t42)), (.prod t3 t33), fcPMost.sh, true⟩) else if k = 23 then some (.sc ⟨(.prod t36 t36), t4, fcSameInts.sh, true⟩) else if k = 27 then some (.sc ⟨(.prod t26 t3), (.prod t28 t33), fcLength.sh, true⟩) else if k = 54 then some (.sc ⟨.unit, t26, fcExample.sh, true⟩) else if k = 55 then some (.sc ⟨.unit, t42, fcJobs.sh, true⟩) else none
theorem Psi_k14_ok : PsiOk Try.prog noU Psi_k14 := by
  intro k c h
  unfold Psi_k14 at h
  split at h
  · cases h; subst_vars; exact ⟨spec_k15, fun _ _ => M.det_det⟩
  split at h
  · cases h; subst_vars; exact ⟨spec_k16, fun _ _ => M.det_det⟩
  split at h
  · cases h; subst_vars; exact ⟨spec_k21, fun _ _ => M.det_det⟩
  split at h
  · cases h; subst_vars; exact ⟨spec_k23, fun _ _ => M.det_det⟩
  split at h
  · cases h; subst_vars; exact ⟨spec_k27, fun _ _ => M.det_det⟩
  split at h
  · cases h; subst_vars; exact ⟨spec_k54, fun _ _ => M.det_det⟩
  split at h
  · cases h; subst_vars; exact ⟨spec_k55, fun _ _ => M.det_det⟩
  cases h
def ann_k14 : Ann := (.seq .leaf (.seq .leaf (.seq .leaf (.seq .leaf (.seq .leaf (.seq .leaf (.seq .leaf .leaf)))))))
theorem l_k14 (x) : funI noU (tabT tab) noPhi Psi_k14 Try.f14 b_k14 ann_k14 .unit t4 x = S_law07_works fcPFewest.sh fcPNeeded.sh fcPMost.sh fcSameInts.sh fcLength.sh fcExample.sh fcJobs.sh x := by kernel_rfl
theorem spec_k14 : FnSpec Try.prog 14 .unit t4 fcWorks.sh :=
  fn_ok mixOk tabOk noU_ok noPhi_ok Psi_k14_ok Try.func14 b_k14_ok (by kernel_rfl) fun x => M.le_trans (M.le_of_eq (l_k14 x)) (sWorks x)
noncomputable def b_k24 : Code := Try.f24.body.getD .skip
theorem b_k24_ok : Try.f24.body = some b_k24 := by kernel_rfl
noncomputable def Psi_k24 (k : Nat) : Option KC := if k = 26 then some (.sc ⟨t26, t33, fcCheck.sh, true⟩) else none
theorem Psi_k24_ok : PsiOk Try.prog noU Psi_k24 := by
  intro k c h
  unfold Psi_k24 at h
  split at h
  · cases h; subst_vars; exact ⟨spec_k26, fun _ _ => M.det_det⟩
  cases h
def ann_k24 : Ann := (.seq .leaf (.seq (.seq .leaf (.cond (.seq .leaf .leaf) .leaf)) (.join ⟨[(1, .loc 1 0)], [(1, .whole t26)]⟩ (.seq .leaf (.block (.loop ⟨[(1, .loc 1 0), (3, .val t3)], [(1, .whole t26)]⟩ (.seq (.seq .leaf (.cond .leaf .leaf)) (.join ⟨[(1, .loc 1 0), (3, .val t3)], [(1, .whole t26)]⟩ (.block (.seq (.seq .leaf (.cond (.seq .leaf .leaf) .leaf)) (.seq .leaf (.block (.loop ⟨[(1, .loc 1 0), (3, .val t3), (4, .val t3)], [(1, .whole t26)]⟩ (.seq (.seq .leaf (.cond .leaf .leaf)) (.seq (.block (.seq .leaf (.cond (.seq .leaf .leaf) .leaf))) .leaf))))))) .leaf))))) (.seq (.seq .leaf (.cond (.seq .leaf .leaf) .leaf)) (.join ⟨[(1, .loc 1 0)], [(1, .whole t26)]⟩ (.seq .leaf (.block (.loop ⟨[(1, .loc 1 0), (5, .val t3)], [(1, .whole t26)]⟩ (.seq (.seq .leaf (.cond .leaf .leaf)) (.seq (.block (.seq .leaf (.cond (.seq .leaf .leaf) .leaf))) .leaf))))) (.seq .leaf .leaf))))))
theorem l_k24 (x) : funI noU (tabT tab) noPhi Psi_k24 Try.f24 b_k24 ann_k24 t26 t4 x = S_law07_Far fcCheck.sh x := by kernel_rfl
theorem spec_k24 : FnSpec Try.prog 24 t26 t4 fcFar.sh :=
  fn_ok mixOk tabOk noU_ok noPhi_ok Psi_k24_ok Try.func24 b_k24_ok (by kernel_rfl) fun x => M.le_trans (M.le_of_eq (l_k24 x)) (sFar x)
noncomputable def b_k31 : Code := Try.f31.body.getD .skip
theorem b_k31_ok : Try.f31.body = some b_k31 := by kernel_rfl
noncomputable def Psi_k31 (k : Nat) : Option KC := if k = 23 then some (.sc ⟨(.prod t36 t36), t4, fcSameInts.sh, true⟩) else none
theorem Psi_k31_ok : PsiOk Try.prog noU Psi_k31 := by
  intro k c h
  unfold Psi_k31 at h
  split at h
  · cases h; subst_vars; exact ⟨spec_k23, fun _ _ => M.det_det⟩
  cases h
def ann_k31 : Ann := (.seq .leaf (.seq (.seq .leaf (.cond (.seq .leaf .leaf) .leaf)) (.join ⟨[(2, .loc 2 0), (3, .loc 3 0)], [(2, .whole t26), (3, .whole t26)]⟩ (.seq .leaf (.block (.loop ⟨[(2, .loc 2 0), (3, .loc 3 0), (5, .val t3)], [(2, .whole t26), (3, .whole t26)]⟩ (.seq (.seq .leaf (.cond .leaf .leaf)) (.seq (.block (.seq .leaf (.cond (.seq .leaf .leaf) .leaf))) .leaf))))) (.join ⟨[(2, .loc 2 0), (3, .loc 3 0)], [(2, .whole t26), (3, .whole t26)]⟩ (.seq .leaf (.block (.loop ⟨[(2, .loc 2 0), (3, .loc 3 0), (6, .val t3)], [(2, .whole t26), (3, .whole t26)]⟩ (.seq (.seq .leaf (.cond .leaf .leaf)) (.seq (.block (.seq .leaf (.cond (.seq .leaf .leaf) .leaf))) .leaf))))) (.join ⟨[], []⟩ (.seq .leaf (.block (.loop ⟨[(2, .loc 2 0), (3, .loc 3 0), (7, .val t3)], [(2, .whole t26), (3, .whole t26)]⟩ (.seq (.seq .leaf (.cond .leaf .leaf)) (.join ⟨[(2, .loc 2 0), (3, .loc 3 0), (7, .val t3)], [(2, .whole t26), (3, .whole t26)]⟩ (.block (.seq (.seq .leaf (.cond (.seq .leaf .leaf) .leaf)) (.seq .leaf (.block (.loop ⟨[(2, .loc 2 0), (3, .loc 3 0), (7, .val t3), (8, .val t3)], [(2, .whole t26), (3, .whole t26)]⟩ (.seq (.seq .leaf (.cond .leaf .leaf)) (.seq (.block (.seq .leaf (.seq .leaf (.cond (.seq .leaf .leaf) .leaf)))) .leaf))))))) .leaf))))) (.seq .leaf .leaf))))))
theorem l_k31 (x) : funI noU (tabT tab) noPhi Psi_k31 Try.f31 b_k31 ann_k31 (.prod t26 t26) t4 x = S_law07_same fcSameInts.sh x := by kernel_rfl
theorem spec_k31 : FnSpec Try.prog 31 (.prod t26 t26) t4 fcSame.sh :=
  fn_ok mixOk tabOk noU_ok noPhi_ok Psi_k31_ok Try.func31 b_k31_ok (by kernel_rfl) fun x => M.le_trans (M.le_of_eq (l_k31 x)) (sSame x)
noncomputable def b_k13 : Code := Try.f13.body.getD .skip
theorem b_k13_ok : Try.f13.body = some b_k13 := by kernel_rfl
noncomputable def Psi_k13 (k : Nat) : Option KC := if k = 24 then some (.sc ⟨t26, t4, fcFar.sh, true⟩) else if k = 53 then some (.sc ⟨t26, t33, fcKnown.sh, true⟩) else none
theorem Psi_k13_ok : PsiOk Try.prog noU Psi_k13 := by
  intro k c h
  unfold Psi_k13 at h
  split at h
  · cases h; subst_vars; exact ⟨spec_k24, fun _ _ => M.det_det⟩
  split at h
  · cases h; subst_vars; exact ⟨spec_k53, fun _ _ => M.det_det⟩
  cases h
def ann_k13 : Ann := (.seq .leaf (.seq .leaf .leaf))
theorem l_k13 (x) : funI noU (tabT tab) noPhi Psi_k13 Try.f13 b_k13 ann_k13 t26 t4 x = S_law07_ready fcFar.sh fcKnown.sh x := by kernel_rfl
theorem spec_k13 : FnSpec Try.prog 13 t26 t4 fcReady.sh :=
  fn_ok mixOk tabOk noU_ok noPhi_ok Psi_k13_ok Try.func13 b_k13_ok (by kernel_rfl) fun x => M.le_trans (M.le_of_eq (l_k13 x)) (sReady x)
end Go.Fer.Sk
