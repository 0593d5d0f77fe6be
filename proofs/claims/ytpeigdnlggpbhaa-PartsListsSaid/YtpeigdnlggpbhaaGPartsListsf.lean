/- Part 6 of the frame of the proof: shallow programs of Go functions, and what they compute. No condition. -/
import Derived.Test.YtpeigdnlggpbhaaFe
namespace Go.Fer
open M (Step)
set_option linter.unusedVariables false
set_option linter.unusedSimpArgs false
theorem ascV_iff {l : List Int} : ascV l = true ↔ l.Pairwise (· < ·) := by
  unfold ascV
  simp only [List.all_eq_true, List.mem_range, decide_eq_true_eq]
  constructor
  · intro h
    have key : ∀ (d i : Nat) (hj : i + (d + 1) < l.length), l[i] < l[i + (d + 1)] := by
      intro d
      induction d with
      | zero =>
        intro i hj
        have := h i (by omega)
        rw [List.getD_eq_getElem?_getD, List.getD_eq_getElem?_getD, List.getElem?_eq_getElem (by omega), List.getElem?_eq_getElem (by omega)] at this
        exact this
      | succ d ih =>
        intro i hj
        have h1 := ih i (by omega)
        have h2 := h (i + (d + 1)) (by omega)
        rw [List.getD_eq_getElem?_getD, List.getD_eq_getElem?_getD, List.getElem?_eq_getElem (by omega), List.getElem?_eq_getElem (by omega)] at h2
        exact Int.lt_trans h1 h2
    rw [List.pairwise_iff_getElem]
    intro i j hi hj hij
    obtain ⟨d, rfl⟩ := Nat.exists_eq_add_of_le (Nat.succ_le_of_lt hij)
    have := key d i (by omega)
    simpa [Nat.add_assoc, Nat.add_comm, Nat.add_left_comm] using this
  · intro h i hi
    rw [List.pairwise_iff_getElem] at h
    have := h i (i + 1) (by omega) (by omega) (by omega)
    rw [List.getD_eq_getElem?_getD, List.getD_eq_getElem?_getD, List.getElem?_eq_getElem (by omega), List.getElem?_eq_getElem (by omega)]
    exact this
theorem asc_filter (p : Nat → Bool) (n : Nat) : (((List.range n).filter p).map fun (i : Nat) => (i : Int)).Pairwise (· < ·) :=
  List.Pairwise.map _ (fun a b (h : a < b) => by omega) (List.pairwise_lt_range.filter p)
theorem isListV_bitsL (w : Wsh) (b : Nat) : isListV w (bitsL w.1.length b) = true := by
  unfold isListV
  rw [Bool.and_eq_true]
  refine ⟨?_, ascV_iff.2 (asc_filter _ _)⟩
  rw [List.all_eq_true]
  exact fun i hi => isSpareV_iff.2 (bitsL_mem hi)
theorem keep_ok {w : Wsh} (h : smallW w) (he : (fewestR w).2 = 0) : goodW w ∧ knownV w true = 0 ∧ ((keepV w).1.length : Int) = (fewestR w).1 ∧ (keepV w).2 = 0 ∧ isListV w (keepV w).1 = true ∧ mendsAllV w (keepV w).1 = true ∧ (keepV w).1.length ≤ 10 := by
  rw [fewestR_2 h] at he
  obtain ⟨hk, hne, h1⟩ := fewV_1 he
  have hw := good_of_known h hk
  have hhd := wV_head hw.2
  obtain ⟨b, hb, h2, h3, h4, h5⟩ := few_head hw hne
  have hr2 := fewestR_2 h
  have hkeep : keepV w = ((listsV w).getD 0 [], 0) := by unfold keepV; rw [hr2, he]; simp
  have hr : fewestR w = (firstLen (listsV w), 0) := by
    unfold fewestR
    have hl : 0 < (fewL w).length := List.length_pos_iff.2 hne
    rw [if_neg (by simp [hk]), if_neg (by omega)]
  refine ⟨hw, hk, ?_, by rw [hkeep], ?_, ?_, ?_⟩
  · rw [hkeep, hr]; rfl
  · rw [hkeep, h3]; exact isListV_bitsL w b
  · rw [hkeep, h3]; exact h4
  · rw [hkeep, h3]; exact Nat.le_trans (bitsL_len _ _) hhd.1
theorem keep_err {w : Wsh} (he : (fewestR w).2 ≠ 0) : keepV w = ([], (fewestR w).2) := by unfold keepV; rw [if_pos he]
theorem neededR_len {w : Wsh} : (neededR w).1.length ≤ w.1.length := by
  unfold neededR
  split
  · simp
  · rw [List.length_map]
    exact Nat.le_trans (List.length_filter_le _ _) (by simp)
theorem lawFewest (w : Wsh) (h : smallW w) :
    S_law07_PartsFewest fcWorks.sh fcPFewest.sh fcPNeeded.sh fcCopy.sh fcSameInts.sh fcFar.sh fcFewest.sh fcNeeded.sh fcKeep.sh fcMendsAll.sh w = M.pure true := by
  unfold S_law07_PartsFewest
  simp only [FC.sh, M.bind_det, M.req_true h, M.req_True]
  cases hf : farV w with
  | true => simp
  | false =>
    have hc := far_copy hf
    have hnl : (neededR w).1.length < 2 ^ 63 ∧ (neededR w).1.length < 2 ^ 63 := by have := neededR_len (w := w); have := h.1; omega
    have hn2 : (neededR w).2 = (fewestR w).2 := by
      unfold neededR
      split
      · rfl
      · rename_i hh; exact (Decidable.not_not.1 hh).symm
    simp only [Bool.false_eq_true, if_false]
    rw [M.req_true (by exact hc)]
    simp only [M.req_true h, M.gdo_det, ne_eq, not_true, decide_false, Bool.or_self, Bool.not_false, true_implies, M.bind_det, if_true, decide_true, Bool.not_true, Bool.false_or, Bool.or_false]
    rw [M.req_true (by exact hnl)]
    by_cases he : (fewestR w).2 = 0
    · obtain ⟨hw, hk, e1, e2, e3, e4, e5⟩ := keep_ok h he
      have hml : goodW w ∧ (keepV w).1.length < 2 ^ 63 := ⟨hw, by omega⟩
      have h40 : decide (Int.ofNat (keepV w).1.length > 40) = false := by simp only [ofNat_def, decide_eq_false_iff_not]; omega
      simp only [ofNat_def] at h40 ⊢
      simp only [he, e2, h40, not_true, decide_false, Bool.or_self, Bool.false_eq_true, if_false, e1, decide_true, if_true, true_implies, e3, e4, Bool.and_self, M.req_True]
      rw [M.req_true (by exact hml)]
      have h41 : ¬ (40 < (fewestR w).1) := by omega
      simp [h41]
    · have hkp := keep_err he
      simp only [hkp, List.length_nil, ofNat_def]
      simp [he]
end Go.Fer
namespace Go.Fer
open M (Step)
set_option linter.unusedVariables false
set_option linter.unusedSimpArgs false
def allMk (w : Wsh) (list : List Int) : Bool := (List.range w.2.1.length).all fun (m : Nat) => decide (mendsR w list (m : Int) = (1, 0))
abbrev fcAllM : FC := ⟨.prod tW tInts, tB, fun x => smallW x.1 ∧ x.2.length < 2 ^ 63, fun x => allMk x.1 x.2⟩
theorem pair_ne {p : Int × Int} : (decide (p.2 ≠ 0) || decide (p.1 ≠ 1)) = !decide (p = (1, 0)) := by
  obtain ⟨a, b⟩ := p
  by_cases h1 : a = 1 <;> by_cases h2 : b = 0 <;> simp [h1, h2]
theorem eAllM (w : Wsh) (list : List Int) (h : smallW w) (hl : list.length < 2 ^ 63) : S_law07_all fcMends.sh (w, list) = M.pure (allMk w list) := by
  unfold S_law07_all
  have hp : smallW w ∧ list.length < 2 ^ 63 := ⟨h, hl⟩
  rw [M.loop_listT (List.range w.2.1.length) (fun m (_ : Unit) => (list, (m : Int), w, ())) (fun (m : Nat) u => if (!decide (mendsR w list (m : Int) = (1, 0))) = true then .done (.done false) else .next u) (fun _ => .next ()) () ?_ ?_ ?_]
  · rw [foldS_anyN (q := fun (m : Nat) => decide (mendsR w list (m : Int) = (1, 0))) _ _ (fun m => rfl)]
    show _ = M.pure (allMk w list)
    have e : ((List.range w.2.1.length).all fun (m : Nat) => decide (mendsR w list (m : Int) = (1, 0))) = allMk w list := rfl
    rw [e]
    cases allMk w list <;> simp
  · rfl
  · intro m hm u
    have hm : m < w.2.1.length := by simpa using hm
    have hml := h.2.1
    have hwm := wrap64 (n := (m : Int) + 1) (by omega) (by omega)
    simp only [ofNat_def, lt_len hm, if_true, List.getElem_range, FC.sh, M.bind_det, M.req_true hp, pair_ne, M.bind_pure, add_def, hwm]
    exact fin_step (mk := fun _ : Unit => (list, (m : Int) + 1, w, ()))
  · intro u
    simp
theorem sAllM (x) : M.le (S_law07_all fcMends.sh x) (fcAllM.sh x) := M.le_det fun h => eAllM x.1 x.2 h.1 h.2
def subV (a b : List Int) : Bool := a.all fun x => b.contains x
abbrev fcSubset : FC := ⟨.prod tInts tInts, tB, fun x => x.1.length < 2 ^ 63 ∧ x.2.length < 2 ^ 63, fun x => subV x.1 x.2⟩
theorem eSubset (a b : List Int) (ha : a.length < 2 ^ 63) (hb : b.length < 2 ^ 63) : S_law07_subset fcIn.sh (a, b) = M.pure (subV a b) := by
  unfold S_law07_subset
  rw [M.loop_listT a (fun i (_ : Unit) => (a, b, (i : Int), ())) (fun x u => if (!b.contains x) = true then .done (.done false) else .next u) (fun _ => .next ()) () ?_ ?_ ?_]
  · rw [foldS_anyN (q := fun x => b.contains x) _ _ (fun m => rfl)]
    have e : (a.all fun x => b.contains x) = subV a b := rfl
    rw [e]
    cases subV a b <;> simp
  · rfl
  · intro i hi u
    have hwi := wrap64 (n := (i : Int) + 1) (by omega) (by omega)
    simp only [ofNat_def, lt_len hi, if_true, in_len hi, M.req_True, getD_nat hi, FC.sh, M.bind_det, M.req_true hb, M.bind_pure, add_def, hwi]
    exact fin_step (mk := fun _ : Unit => (a, b, (i : Int) + 1, ()))
  · intro u
    simp
theorem sSubset (x) : M.le (S_law07_subset fcIn.sh x) (fcSubset.sh x) := M.le_det fun h => eSubset x.1 x.2 h.1 h.2
theorem knownV_true {w : Wsh} (h : knownV w true = 0) (b : Bool) : knownV w b = if b = true then 0 else 1 := by
  have := knownV_0 h
  unfold knownV
  rw [if_neg (by simp [this.1])]
  cases b
  · simp
  · simp [this.2.2]
theorem allM_iff {w : Wsh} (hk : knownV w true = 0) {list : List Int} (hl : isListV w list = true) : allMk w list = mendsAllV w list := by
  unfold allMk mendsAllV
  refine all_congr' fun m hm => ?_
  have hm : m < w.2.1.length := by simpa using hm
  have hmk := isMakeV_nat hm
  unfold mendsR
  rw [knownV_true hk]
  simp [hl, hmk]
theorem asc_unique : ∀ {a b : List Int}, a.Pairwise (· < ·) → b.Pairwise (· < ·) → (∀ x, x ∈ a ↔ x ∈ b) → a = b
  | [], [], _, _, _ => rfl
  | [], y :: b, _, _, h => by have := (h y).2 (by simp); cases this
  | x :: a, [], _, _, h => by have := (h x).1 (by simp); cases this
  | x :: a, y :: b, ha, hb, h => by
    rw [List.pairwise_cons] at ha hb
    have hxy : x = y := by
      have h1 := (h x).1 (by simp)
      have h2 := (h y).2 (by simp)
      rcases List.mem_cons.1 h1 with e | h1
      · exact e
      · rcases List.mem_cons.1 h2 with e | h2
        · exact e.symm
        · have := hb.1 x h1
          have := ha.1 y h2
          omega
    subst hxy
    rw [asc_unique ha.2 hb.2 fun z => ?_]
    constructor
    · intro hz
      have := ha.1 z hz
      rcases List.mem_cons.1 ((h z).1 (List.mem_cons_of_mem _ hz)) with e | h
      · omega
      · exact h
    · intro hz
      have := hb.1 z hz
      rcases List.mem_cons.1 ((h z).2 (List.mem_cons_of_mem _ hz)) with e | h
      · omega
      · exact h
theorem bits_of (p : Nat → Bool) : ∀ n, ∃ b, b < 2 ^ n ∧ ∀ i < n, b.testBit i = p i
  | 0 => ⟨0, by simp, fun i h => by omega⟩
  | n + 1 => by
    obtain ⟨b, hb, h⟩ := bits_of p n
    cases hp : p n with
    | false =>
      refine ⟨b, Nat.lt_of_lt_of_le hb (Nat.pow_le_pow_right (by omega) (by omega)), fun i hi => ?_⟩
      by_cases e : i = n
      · subst e; rw [Nat.testBit_lt_two_pow hb, hp]
      · exact h i (by omega)
    | true =>
      refine ⟨b + 2 ^ n, by rw [Nat.pow_succ]; omega, fun i hi => ?_⟩
      by_cases e : i = n
      · subst e; rw [Nat.add_comm, Nat.testBit_two_pow_add_eq, Nat.testBit_lt_two_pow hb, hp]; rfl
      · rw [Nat.add_comm, Nat.testBit_two_pow_add_gt (by omega)]
        exact h i (by omega)
theorem list_bits {w : Wsh} {list : List Int} (h : isListV w list = true) : ∃ b, b < 2 ^ w.1.length ∧ bitsL w.1.length b = list := by
  obtain ⟨b, hb, hp⟩ := bits_of (fun i => list.contains (i : Int)) w.1.length
  refine ⟨b, hb, asc_unique (asc_filter _ _) ?_ fun x => ?_⟩
  · unfold isListV at h
    rw [Bool.and_eq_true] at h
    exact ascV_iff.1 h.2
  · constructor
    · intro hx
      have h2 := bitsL_mem hx
      obtain ⟨i, rfl⟩ := Int.eq_ofNat_of_zero_le h2.1
      have h3 := mem_bitsL.1 hx
      rw [hp i h3.1] at h3
      simpa using h3.2
    · intro hx
      have h2 := isSpareV_iff.1 (isListV_mem h x hx)
      obtain ⟨i, rfl⟩ := Int.eq_ofNat_of_zero_le h2.1
      refine mem_bitsL.2 ⟨by omega, ?_⟩
      rw [hp i (by omega)]
      simpa using hx
theorem fewest_min {w : Wsh} (h : smallW w) (hk : knownV w true = 0) {list : List Int} (hl : isListV w list = true) (hm : mendsAllV w list = true) :
    (fewestR w).2 = 0 ∧ (fewestR w).1 ≤ (list.length : Int) ∧ ((fewestR w).1 = (list.length : Int) → list ∈ listsV w) := by
  have hw := good_of_known h hk
  obtain ⟨b, hb, rfl⟩ := list_bits hl
  rcases lists_inv w (2 ^ w.1.length) with ⟨_, hn⟩ | ⟨k, hne, he, hmin⟩
  · have := hn b hb
    rw [show okB w b = true from hm] at this
    cases this
  · have he : listsV w = (upB w k (2 ^ w.1.length)).map (fun y => bitsL w.1.length y.toNat) := he
    have hk2 := hmin b hb hm
    have hfl : firstLen (listsV w) = (k : Int) := by
      rw [he]
      unfold firstLen
      cases hu : upB w k (2 ^ w.1.length) with
      | nil => exact absurd hu hne
      | cons x l =>
        have hx : x ∈ upB w k (2 ^ w.1.length) := by rw [hu]; simp
        simp only [upB, List.mem_map, List.mem_filter, Bool.and_eq_true, decide_eq_true_eq] at hx
        obtain ⟨b, ⟨_, hc, _⟩, rfl⟩ := hx
        simp [hc]
    have hlen : 0 < (listsV w).length := by rw [he, List.length_map]; exact List.length_pos_iff.2 hne
    have hf : fewestR w = ((k : Int), 0) := by
      unfold fewestR
      rw [if_neg (by simp [hk]), if_neg (by omega), hfl]
    rw [hf]
    refine ⟨rfl, by show (k : Int) ≤ _; omega, fun e => ?_⟩
    have e : (k : Int) = ((bitsL w.1.length b).length : Int) := e
    rw [he]
    refine List.mem_map.2 ⟨(b : Int), ?_, by rw [Int.toNat_natCast]⟩
    simp only [upB, List.mem_map, List.mem_filter, List.mem_range, Bool.and_eq_true, decide_eq_true_eq]
    exact ⟨b, ⟨hb, by omega, hm⟩, rfl⟩
theorem needed_mem {w : Wsh} {i : Int} (h : i ∈ (neededR w).1) : ∀ l ∈ listsV w, i ∈ l := by
  unfold neededR at h
  split at h
  · cases h
  · simp only [List.mem_map, List.mem_filter, decide_eq_true_eq] at h
    obtain ⟨k, ⟨_, h2⟩, rfl⟩ := h
    have h3 : ((listsV w).countP fun l => l.contains (k : Int)) = (listsV w).length := by omega
    rw [List.countP_eq_length] at h3
    intro l hl
    simpa using h3 l hl
theorem keep_mem {w : Wsh} (h : smallW w) (he : (fewestR w).2 = 0) : (keepV w).1 ∈ listsV w := by
  obtain ⟨hw, hk, e1, e2, e3, e4, e5⟩ := keep_ok h he
  exact (fewest_min h hk e3 e4).2.2 e1.symm
theorem needed_keep {w : Wsh} (h : smallW w) (he : (fewestR w).2 = 0) : subV (neededR w).1 (keepV w).1 = true ∧ (neededR w).1.length ≤ (keepV w).1.length := by
  have hm : ∀ x ∈ (neededR w).1, x ∈ (keepV w).1 := fun x hx => needed_mem hx _ (keep_mem h he)
  refine ⟨?_, ?_⟩
  · unfold subV
    rw [List.all_eq_true]
    exact fun x hx => by simpa using hm x hx
  · have hn : (neededR w).1.Nodup := by
      unfold neededR
      split
      · simp
      · exact nodup_map_int _ _
    have key : ∀ (a b : List Int), a.Nodup → (∀ x ∈ a, x ∈ b) → a.length ≤ b.length := by
      intro a
      induction a with
      | nil => intro b _ _; simp
      | cons x a ih =>
        intro b hn hs
        rw [List.nodup_cons] at hn
        have hx := hs x (by simp)
        have := ih (b.erase x) hn.2 fun y hy => (List.mem_erase_of_ne fun (e : y = x) => hn.1 (e ▸ hy)).2 (hs y (List.mem_cons_of_mem _ hy))
        rw [List.length_erase_of_mem hx] at this
        have := List.length_pos_of_mem hx
        simp only [List.length_cons]
        omega
    exact key _ _ hn hm
theorem fewestR_known {w : Wsh} (h : knownV w true = 0) : (fewestR w).2 = 0 ∨ fewestR w = (0, 3) := by
  unfold fewestR
  rw [if_neg (by simp [h])]
  split
  · exact .inr rfl
  · exact .inl rfl
theorem neededR_2 (w : Wsh) : (neededR w).2 = (fewestR w).2 := by
  unfold neededR
  split
  · rfl
  · rename_i hh; exact (Decidable.not_not.1 hh).symm
theorem neededR_err {w : Wsh} (h : (fewestR w).2 ≠ 0) : (neededR w).1 = [] := by unfold neededR; rw [if_pos h]
theorem lawLists (x : Wsh × List Int) (h : smallW x.1) (hl : x.2.length < 2 ^ 63) :
    S_law07_PartsLists fcReady.sh fcWorks.sh fcPFewest.sh fcPNeeded.sh fcIsSpare.sh fcKeep.sh fcAllM.sh fcSubset.sh fcAscending.sh x = M.pure true := by
  obtain ⟨w, list⟩ := x
  change smallW w at h
  change list.length < 2 ^ 63 at hl
  have hp1 : smallW w ∧ list.length < 2 ^ 63 := ⟨h, hl⟩
  unfold S_law07_PartsLists
  simp only [FC.sh, M.bind_det, M.req_true h, M.req_True, ofNat_def]
  by_cases hc : (!readyV w || decide ((list.length : Int) > 20)) = true
  · simp only [hc, if_true]
  · rw [if_neg hc]
    have hr : readyV w = true := by
      cases hrr : readyV w with
      | true => rfl
      | false => rw [hrr] at hc; simp at hc
    obtain ⟨hcp, hk⟩ := ready_of hr
    have hnl : (neededR w).1.length < 2 ^ 63 := by have := neededR_len (w := w); have := hcp.1; omega
    have g1 : (keepV w).2 = (fewestR w).2 := by
      by_cases he : (fewestR w).2 = 0
      · rw [he]; exact (keep_ok h he).2.2.2.1
      · rw [keep_err he]
    have g2 : (decide ((fewestR w).2 ≠ 0) && decide ((fewestR w).2 ≠ 3)) = false := by
      rcases fewestR_known hk with he | he
      · simp [he]
      · rw [he]; rfl
    have g3 : decide (((neededR w).1.length : Int) > (fewestR w).1) = false := by
      rw [decide_eq_false_iff_not]
      rcases fewestR_known hk with he | he
      · have := (needed_keep h he).2
        have := (keep_ok h he).2.2.1
        omega
      · rw [neededR_err (by rw [he]; decide), he]
        simp
    have g4 : decide (((keepV w).1.length : Int) ≠ (fewestR w).1) = false := by
      rw [decide_eq_false_iff_not]
      rcases fewestR_known hk with he | he
      · have := (keep_ok h he).2.2.1
        omega
      · rw [keep_err (by rw [he]; decide), he]
        simp
    have g5 : (keepV w).1.length < 2 ^ 63 := by
      by_cases he : (fewestR w).2 = 0
      · have := (keep_ok h he).2.2.2.2.2.2; omega
      · rw [keep_err he]; show 0 < 2 ^ 63; decide
    have g6 : (fewestR w).2 = 0 → allMk w (keepV w).1 = true := fun he => by
      obtain ⟨_, _, _, _, e3, e4, _⟩ := keep_ok h he
      rw [allM_iff hk e3]; exact e4
    have g7 : (fewestR w).2 = 0 → subV (neededR w).1 (keepV w).1 = true := fun he => (needed_keep h he).1
    have g8 : isListV w list = true → mendsAllV w list = true → (fewestR w).2 = 0 ∧ (fewestR w).1 ≤ (list.length : Int) ∧ ((fewestR w).1 = (list.length : Int) → subV (neededR w).1 list = true) := fun h1 h2 => by
      obtain ⟨q1, q2, q3⟩ := fewest_min h hk h1 h2
      refine ⟨q1, q2, fun e => ?_⟩
      unfold subV
      rw [List.all_eq_true]
      exact fun x hx => by simpa using needed_mem hx _ (q3 e)
    have hq1 : smallW w ∧ (keepV w).1.length < 2 ^ 63 := ⟨h, g5⟩
    have hq2 : (neededR w).1.length < 2 ^ 63 ∧ (keepV w).1.length < 2 ^ 63 := ⟨hnl, g5⟩
    have hq3 : (neededR w).1.length < 2 ^ 63 ∧ list.length < 2 ^ 63 := ⟨hnl, hl⟩
    simp only [M.req_true h, neededR_2, g1, g2, g3, g4, ne_eq, not_true, decide_false, Bool.or_self, Bool.false_eq_true, if_false, M.gdo_det, M.bind_det]
    rw [M.req_true (by exact fun _ => hq1), M.req_true (by exact fun _ => hq2)]
    rw [if_neg (by
      by_cases he : (fewestR w).2 = 0
      · simp [he, g6 he, g7 he]
      · simp [he])]
    rw [M.loop_listT list (fun i (_ : Unit) => (list, (fewestR w).1, (fewestR w).2, (neededR w).1, (i : Int), w, ())) (fun x u => if (!isSpareV w x) = true then .done (.done true) else .next u) (fun _ => .next (list, (fewestR w).1, (fewestR w).2, (neededR w).1, w, ())) () ?_ ?_ ?_]
    · rw [foldS_anyN (q := isSpareV w) _ _ (fun x => rfl)]
      by_cases hs : list.all (isSpareV w) = true
      · simp only [hs, if_true, M.bind_pure, M.go_next, M.req_true hl]
        rw [M.req_true (by exact fun _ => hp1)]
        by_cases ha : ascV list = true
        · have hil : isListV w list = true := by unfold isListV; rw [hs, ha]; rfl
          simp only [ha, Bool.not_true, Bool.not_false, if_true, Bool.false_or, allM_iff hk hil]
          by_cases hm : mendsAllV w list = true
          · obtain ⟨q1, q2, q3⟩ := g8 hil hm
            simp only [hm, Bool.not_true, Bool.false_eq_true, if_false, q1, decide_true, Bool.true_and, q2]
            rw [M.req_true (by exact fun _ => hq3)]
            by_cases hlt : (fewestR w).1 < (list.length : Int)
            · simp [hlt]
            · have := q3 (by omega)
              simp [hlt, this]
          · simp [hm]
        · simp [ha]
      · simp only [hs, Bool.false_eq_true, if_false, M.bind_pure, M.go_done]
    · rfl
    · intro i hi u
      have hwi := wrap64 (n := (i : Int) + 1) (by omega) (by omega)
      simp only [lt_len hi, if_true, in_len hi, M.req_True, getD_nat hi, M.safe_det, M.val_det, M.req_true h, M.bind_pure, add_def, hwi]
      exact fin_step (mk := fun _ : Unit => (list, (fewestR w).1, (fewestR w).2, (neededR w).1, (i : Int) + 1, w, ()))
    · intro u
      simp
end Go.Fer
namespace Go.Fer.Sk
open Go.Proofs
open M (Step)
set_option maxRecDepth 100000
set_option linter.unusedVariables false
set_option linter.unusedSimpArgs false
noncomputable def b_k43 : Code := Try.f43.body.getD .skip
theorem b_k43_ok : Try.f43.body = some b_k43 := by kernel_rfl
noncomputable def Psi_k43 (k : Nat) : Option KC := if k = 36 then some (.sc ⟨(.prod t26 (.prod t36 t3)), (.prod t3 t33), fcMends.sh, true⟩) else none
theorem Psi_k43_ok : PsiOk Try.prog noU Psi_k43 := by
  intro k c h
  unfold Psi_k43 at h
  split at h
  · cases h; subst_vars; exact ⟨spec_k36, fun _ _ => M.det_det⟩
  cases h
def ann_k43 : Ann := (.seq .leaf (.join ⟨[], []⟩ (.seq .leaf (.block (.loop ⟨[(1, .val t36), (2, .loc 2 0), (5, .val t3)], [(2, .whole t26)]⟩ (.seq (.seq .leaf (.cond .leaf .leaf)) (.seq (.block (.seq .leaf (.seq .leaf (.cond (.seq .leaf .leaf) .leaf)))) .leaf))))) (.seq .leaf .leaf)))
theorem l_k43 (x) : funI noU (tabT tab) noPhi Psi_k43 Try.f43 b_k43 ann_k43 (.prod t26 t36) t4 x = S_law07_all fcMends.sh x := by kernel_rfl
theorem spec_k43 : FnSpec Try.prog 43 (.prod t26 t36) t4 fcAllM.sh :=
  fn_ok mixOk tabOk noU_ok noPhi_ok Psi_k43_ok Try.func43 b_k43_ok (by kernel_rfl) fun x => M.le_trans (M.le_of_eq (l_k43 x)) (sAllM x)
noncomputable def b_k44 : Code := Try.f44.body.getD .skip
theorem b_k44_ok : Try.f44.body = some b_k44 := by kernel_rfl
noncomputable def Psi_k44 (k : Nat) : Option KC := if k = 18 then some (.sc ⟨(.prod t36 t3), t4, fcIn.sh, true⟩) else none
theorem Psi_k44_ok : PsiOk Try.prog noU Psi_k44 := by
  intro k c h
  unfold Psi_k44 at h
  split at h
  · cases h; subst_vars; exact ⟨spec_k18, fun _ _ => M.det_det⟩
  cases h
def ann_k44 : Ann := (.seq .leaf (.join ⟨[], []⟩ (.seq .leaf (.block (.loop ⟨[(0, .val t36), (1, .val t36), (5, .val t3)], []⟩ (.seq (.seq .leaf (.cond .leaf .leaf)) (.seq (.block (.seq .leaf (.cond (.seq .leaf .leaf) .leaf))) .leaf))))) (.seq .leaf .leaf)))
theorem l_k44 (x) : funI noU (tabT tab) noPhi Psi_k44 Try.f44 b_k44 ann_k44 (.prod t36 t36) t4 x = S_law07_subset fcIn.sh x := by kernel_rfl
theorem spec_k44 : FnSpec Try.prog 44 (.prod t36 t36) t4 fcSubset.sh :=
  fn_ok mixOk tabOk noU_ok noPhi_ok Psi_k44_ok Try.func44 b_k44_ok (by kernel_rfl) fun x => M.le_trans (M.le_of_eq (l_k44 x)) (sSubset x)
noncomputable def b_k10 : Code := Try.f10.body.getD .skip
theorem b_k10_ok : Try.f10.body = some b_k10 := by kernel_rfl
noncomputable def Psi_k10 (k : Nat) : Option KC := if k = 13 then some (.sc ⟨t26, t4, fcReady.sh, true⟩) else if k = 14 then some (.sc ⟨.unit, t4, fcWorks.sh, true⟩) else if k = 15 then some (.sc ⟨t26, (.prod t3 t33), fcPFewest.sh, true⟩) else if k = 16 then some (.sc ⟨t26, (.prod t36 t33), fcPNeeded.sh, true⟩) else if k = 20 then some (.sc ⟨(.prod t26 t3), t4, fcIsSpare.sh, true⟩) else if k = 34 then some (.sc ⟨t26, (.prod t36 t33), fcKeep.sh, true⟩) else if k = 43 then some (.sc ⟨(.prod t26 t36), t4, fcAllM.sh, true⟩) else if k = 44 then some (.sc ⟨(.prod t36 t36), t4, fcSubset.sh, true⟩) else if k = 45 then some (.sc ⟨t36, t4, fcAscending.sh, true⟩) else none
theorem Psi_k10_ok : PsiOk Try.prog noU Psi_k10 := by
  intro k c h
  unfold Psi_k10 at h
  split at h
  · cases h; subst_vars; exact ⟨spec_k13, fun _ _ => M.det_det⟩
  split at h
  · cases h; subst_vars; exact ⟨spec_k14, fun _ _ => M.det_det⟩
  split at h
  · cases h; subst_vars; exact ⟨spec_k15, fun _ _ => M.det_det⟩
  split at h
  · cases h; subst_vars; exact ⟨spec_k16, fun _ _ => M.det_det⟩
  split at h
  · cases h; subst_vars; exact ⟨spec_k20, fun _ _ => M.det_det⟩
  split at h
  · cases h; subst_vars; exact ⟨spec_k34, fun _ _ => M.det_det⟩
  split at h
  · cases h; subst_vars; exact ⟨spec_k43, fun _ _ => M.det_det⟩
  split at h
  · cases h; subst_vars; exact ⟨spec_k44, fun _ _ => M.det_det⟩
  split at h
  · cases h; subst_vars; exact ⟨spec_k45, fun _ _ => M.det_det⟩
  cases h
def ann_k10 : Ann := (.seq .leaf (.seq (.seq .leaf (.cond (.seq .leaf .leaf) .leaf)) (.seq .leaf (.seq .leaf (.seq .leaf (.seq (.seq .leaf (.cond (.seq .leaf .leaf) .leaf)) (.seq (.seq .leaf (.cond (.seq .leaf .leaf) .leaf)) (.join ⟨[(1, .val t36), (2, .loc 2 0), (5, .val t3), (6, .val t3), (7, .val t36)], [(2, .whole t26)]⟩ (.seq .leaf (.block (.loop ⟨[(1, .val t36), (2, .loc 2 0), (5, .val t3), (6, .val t3), (7, .val t36), (11, .val t3)], [(2, .whole t26)]⟩ (.seq (.seq .leaf (.cond .leaf .leaf)) (.seq (.block (.seq .leaf (.cond (.seq .leaf .leaf) .leaf))) .leaf))))) (.seq (.seq .leaf (.cond (.seq .leaf .leaf) .leaf)) (.seq .leaf .leaf))))))))))
theorem l_k10 (x) : funI noU (tabT tab) noPhi Psi_k10 Try.f10 b_k10 ann_k10 (.prod t26 t36) t4 x = S_law07_PartsLists fcReady.sh fcWorks.sh fcPFewest.sh fcPNeeded.sh fcIsSpare.sh fcKeep.sh fcAllM.sh fcSubset.sh fcAscending.sh x := by kernel_rfl
theorem spec_k10 : FnSpec Try.prog 10 (.prod t26 t36) t4 (fun x => S_law07_PartsLists fcReady.sh fcWorks.sh fcPFewest.sh fcPNeeded.sh fcIsSpare.sh fcKeep.sh fcAllM.sh fcSubset.sh fcAscending.sh x) :=
  fn_ok mixOk tabOk noU_ok noPhi_ok Psi_k10_ok Try.func10 b_k10_ok (by kernel_rfl) fun x => M.le_of_eq (l_k10 x)
end Go.Fer.Sk
