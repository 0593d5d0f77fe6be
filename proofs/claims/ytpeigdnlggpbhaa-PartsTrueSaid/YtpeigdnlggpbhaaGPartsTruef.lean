/- Part 6 of the frame of the proof: shallow programs of Go functions, and what they compute. No condition. -/
import Derived.Test.YtpeigdnlggpbhaaFe
namespace Go.Fer
open M (Step)
set_option linter.unusedVariables false
set_option linter.unusedSimpArgs false
theorem ascV_iff {l : List Int} : ascV l = true ↔ l.Pairwise (· < ·) := by
  unfold ascV
  simp only [List.all_eq_true, List.mem_range, decide_eq_true_eq]
  constructor
  · intro h
    have key : ∀ (d i : Nat) (hj : i + (d + 1) < l.length), l[i] < l[i + (d + 1)] := by
      intro d
      induction d with
      | zero =>
        intro i hj
        have := h i (by omega)
        rw [List.getD_eq_getElem?_getD, List.getD_eq_getElem?_getD, List.getElem?_eq_getElem (by omega), List.getElem?_eq_getElem (by omega)] at this
        exact this
      | succ d ih =>
        intro i hj
        have h1 := ih i (by omega)
        have h2 := h (i + (d + 1)) (by omega)
        rw [List.getD_eq_getElem?_getD, List.getD_eq_getElem?_getD, List.getElem?_eq_getElem (by omega), List.getElem?_eq_getElem (by omega)] at h2
        exact Int.lt_trans h1 h2
    rw [List.pairwise_iff_getElem]
    intro i j hi hj hij
    obtain ⟨d, rfl⟩ := Nat.exists_eq_add_of_le (Nat.succ_le_of_lt hij)
    have := key d i (by omega)
    simpa [Nat.add_assoc, Nat.add_comm, Nat.add_left_comm] using this
  · intro h i hi
    rw [List.pairwise_iff_getElem] at h
    have := h i (i + 1) (by omega) (by omega) (by omega)
    rw [List.getD_eq_getElem?_getD, List.getD_eq_getElem?_getD, List.getElem?_eq_getElem (by omega), List.getElem?_eq_getElem (by omega)]
    exact this
theorem asc_filter (p : Nat → Bool) (n : Nat) : (((List.range n).filter p).map fun (i : Nat) => (i : Int)).Pairwise (· < ·) :=
  List.Pairwise.map _ (fun a b (h : a < b) => by omega) (List.pairwise_lt_range.filter p)
theorem isListV_bitsL (w : Wsh) (b : Nat) : isListV w (bitsL w.1.length b) = true := by
  unfold isListV
  rw [Bool.and_eq_true]
  refine ⟨?_, ascV_iff.2 (asc_filter _ _)⟩
  rw [List.all_eq_true]
  exact fun i hi => isSpareV_iff.2 (bitsL_mem hi)
theorem keep_ok {w : Wsh} (h : smallW w) (he : (fewestR w).2 = 0) : goodW w ∧ knownV w true = 0 ∧ ((keepV w).1.length : Int) = (fewestR w).1 ∧ (keepV w).2 = 0 ∧ isListV w (keepV w).1 = true ∧ mendsAllV w (keepV w).1 = true ∧ (keepV w).1.length ≤ 10 := by
  rw [fewestR_2 h] at he
  obtain ⟨hk, hne, h1⟩ := fewV_1 he
  have hw := good_of_known h hk
  have hhd := wV_head hw.2
  obtain ⟨b, hb, h2, h3, h4, h5⟩ := few_head hw hne
  have hr2 := fewestR_2 h
  have hkeep : keepV w = ((listsV w).getD 0 [], 0) := by unfold keepV; rw [hr2, he]; simp
  have hr : fewestR w = (firstLen (listsV w), 0) := by
    unfold fewestR
    have hl : 0 < (fewL w).length := List.length_pos_iff.2 hne
    rw [if_neg (by simp [hk]), if_neg (by omega)]
  refine ⟨hw, hk, ?_, by rw [hkeep], ?_, ?_, ?_⟩
  · rw [hkeep, hr]; rfl
  · rw [hkeep, h3]; exact isListV_bitsL w b
  · rw [hkeep, h3]; exact h4
  · rw [hkeep, h3]; exact Nat.le_trans (bitsL_len _ _) hhd.1
theorem keep_err {w : Wsh} (he : (fewestR w).2 ≠ 0) : keepV w = ([], (fewestR w).2) := by unfold keepV; rw [if_pos he]
theorem neededR_len {w : Wsh} : (neededR w).1.length ≤ w.1.length := by
  unfold neededR
  split
  · simp
  · rw [List.length_map]
    exact Nat.le_trans (List.length_filter_le _ _) (by simp)
theorem lawFewest (w : Wsh) (h : smallW w) :
    S_law07_PartsFewest fcWorks.sh fcPFewest.sh fcPNeeded.sh fcCopy.sh fcSameInts.sh fcFar.sh fcFewest.sh fcNeeded.sh fcKeep.sh fcMendsAll.sh w = M.pure true := by
  unfold S_law07_PartsFewest
  simp only [FC.sh, M.bind_det, M.req_true h, M.req_True]
  cases hf : farV w with
  | true => simp
  | false =>
    have hc := far_copy hf
    have hnl : (neededR w).1.length < 2 ^ 63 ∧ (neededR w).1.length < 2 ^ 63 := by have := neededR_len (w := w); have := h.1; omega
    have hn2 : (neededR w).2 = (fewestR w).2 := by
      unfold neededR
      split
      · rfl
      · rename_i hh; exact (Decidable.not_not.1 hh).symm
    simp only [Bool.false_eq_true, if_false]
    rw [M.req_true (by exact hc)]
    simp only [M.req_true h, M.gdo_det, ne_eq, not_true, decide_false, Bool.or_self, Bool.not_false, true_implies, M.bind_det, if_true, decide_true, Bool.not_true, Bool.false_or, Bool.or_false]
    rw [M.req_true (by exact hnl)]
    by_cases he : (fewestR w).2 = 0
    · obtain ⟨hw, hk, e1, e2, e3, e4, e5⟩ := keep_ok h he
      have hml : goodW w ∧ (keepV w).1.length < 2 ^ 63 := ⟨hw, by omega⟩
      have h40 : decide (Int.ofNat (keepV w).1.length > 40) = false := by simp only [ofNat_def, decide_eq_false_iff_not]; omega
      simp only [ofNat_def] at h40 ⊢
      simp only [he, e2, h40, not_true, decide_false, Bool.or_self, Bool.false_eq_true, if_false, e1, decide_true, if_true, true_implies, e3, e4, Bool.and_self, M.req_True]
      rw [M.req_true (by exact hml)]
      have h41 : ¬ (40 < (fewestR w).1) := by omega
      simp [h41]
    · have hkp := keep_err he
      simp only [hkp, List.length_nil, ofNat_def]
      simp [he]
end Go.Fer
namespace Go.Fer
open M (Step)
set_option linter.unusedVariables false
set_option linter.unusedSimpArgs false
def allMk (w : Wsh) (list : List Int) : Bool := (List.range w.2.1.length).all fun (m : Nat) => decide (mendsR w list (m : Int) = (1, 0))
abbrev fcAllM : FC := ⟨.prod tW tInts, tB, fun x => smallW x.1 ∧ x.2.length < 2 ^ 63, fun x => allMk x.1 x.2⟩
theorem pair_ne {p : Int × Int} : (decide (p.2 ≠ 0) || decide (p.1 ≠ 1)) = !decide (p = (1, 0)) := by
  obtain ⟨a, b⟩ := p
  by_cases h1 : a = 1 <;> by_cases h2 : b = 0 <;> simp [h1, h2]
theorem eAllM (w : Wsh) (list : List Int) (h : smallW w) (hl : list.length < 2 ^ 63) : S_law07_all fcMends.sh (w, list) = M.pure (allMk w list) := by
  unfold S_law07_all
  have hp : smallW w ∧ list.length < 2 ^ 63 := ⟨h, hl⟩
  rw [M.loop_listT (List.range w.2.1.length) (fun m (_ : Unit) => (list, (m : Int), w, ())) (fun (m : Nat) u => if (!decide (mendsR w list (m : Int) = (1, 0))) = true then .done (.done false) else .next u) (fun _ => .next ()) () ?_ ?_ ?_]
  · rw [foldS_anyN (q := fun (m : Nat) => decide (mendsR w list (m : Int) = (1, 0))) _ _ (fun m => rfl)]
    show _ = M.pure (allMk w list)
    have e : ((List.range w.2.1.length).all fun (m : Nat) => decide (mendsR w list (m : Int) = (1, 0))) = allMk w list := rfl
    rw [e]
    cases allMk w list <;> simp
  · rfl
  · intro m hm u
    have hm : m < w.2.1.length := by simpa using hm
    have hml := h.2.1
    have hwm := wrap64 (n := (m : Int) + 1) (by omega) (by omega)
    simp only [ofNat_def, lt_len hm, if_true, List.getElem_range, FC.sh, M.bind_det, M.req_true hp, pair_ne, M.bind_pure, add_def, hwm]
    exact fin_step (mk := fun _ : Unit => (list, (m : Int) + 1, w, ()))
  · intro u
    simp
theorem sAllM (x) : M.le (S_law07_all fcMends.sh x) (fcAllM.sh x) := M.le_det fun h => eAllM x.1 x.2 h.1 h.2
def subV (a b : List Int) : Bool := a.all fun x => b.contains x
abbrev fcSubset : FC := ⟨.prod tInts tInts, tB, fun x => x.1.length < 2 ^ 63 ∧ x.2.length < 2 ^ 63, fun x => subV x.1 x.2⟩
theorem eSubset (a b : List Int) (ha : a.length < 2 ^ 63) (hb : b.length < 2 ^ 63) : S_law07_subset fcIn.sh (a, b) = M.pure (subV a b) := by
  unfold S_law07_subset
  rw [M.loop_listT a (fun i (_ : Unit) => (a, b, (i : Int), ())) (fun x u => if (!b.contains x) = true then .done (.done false) else .next u) (fun _ => .next ()) () ?_ ?_ ?_]
  · rw [foldS_anyN (q := fun x => b.contains x) _ _ (fun m => rfl)]
    have e : (a.all fun x => b.contains x) = subV a b := rfl
    rw [e]
    cases subV a b <;> simp
  · rfl
  · intro i hi u
    have hwi := wrap64 (n := (i : Int) + 1) (by omega) (by omega)
    simp only [ofNat_def, lt_len hi, if_true, in_len hi, M.req_True, getD_nat hi, FC.sh, M.bind_det, M.req_true hb, M.bind_pure, add_def, hwi]
    exact fin_step (mk := fun _ : Unit => (a, b, (i : Int) + 1, ()))
  · intro u
    simp
theorem sSubset (x) : M.le (S_law07_subset fcIn.sh x) (fcSubset.sh x) := M.le_det fun h => eSubset x.1 x.2 h.1 h.2
theorem knownV_true {w : Wsh} (h : knownV w true = 0) (b : Bool) : knownV w b = if b = true then 0 else 1 := by
  have := knownV_0 h
  unfold knownV
  rw [if_neg (by simp [this.1])]
  cases b
  · simp
  · simp [this.2.2]
theorem allM_iff {w : Wsh} (hk : knownV w true = 0) {list : List Int} (hl : isListV w list = true) : allMk w list = mendsAllV w list := by
  unfold allMk mendsAllV
  refine all_congr' fun m hm => ?_
  have hm : m < w.2.1.length := by simpa using hm
  have hmk := isMakeV_nat hm
  unfold mendsR
  rw [knownV_true hk]
  simp [hl, hmk]
theorem asc_unique : ∀ {a b : List Int}, a.Pairwise (· < ·) → b.Pairwise (· < ·) → (∀ x, x ∈ a ↔ x ∈ b) → a = b
  | [], [], _, _, _ => rfl
  | [], y :: b, _, _, h => by have := (h y).2 (by simp); cases this
  | x :: a, [], _, _, h => by have := (h x).1 (by simp); cases this
  | x :: a, y :: b, ha, hb, h => by
    rw [List.pairwise_cons] at ha hb
    have hxy : x = y := by
      have h1 := (h x).1 (by simp)
      have h2 := (h y).2 (by simp)
      rcases List.mem_cons.1 h1 with e | h1
      · exact e
      · rcases List.mem_cons.1 h2 with e | h2
        · exact e.symm
        · have := hb.1 x h1
          have := ha.1 y h2
          omega
    subst hxy
    rw [asc_unique ha.2 hb.2 fun z => ?_]
    constructor
    · intro hz
      have := ha.1 z hz
      rcases List.mem_cons.1 ((h z).1 (List.mem_cons_of_mem _ hz)) with e | h
      · omega
      · exact h
    · intro hz
      have := hb.1 z hz
      rcases List.mem_cons.1 ((h z).2 (List.mem_cons_of_mem _ hz)) with e | h
      · omega
      · exact h
theorem bits_of (p : Nat → Bool) : ∀ n, ∃ b, b < 2 ^ n ∧ ∀ i < n, b.testBit i = p i
  | 0 => ⟨0, by simp, fun i h => by omega⟩
  | n + 1 => by
    obtain ⟨b, hb, h⟩ := bits_of p n
    cases hp : p n with
    | false =>
      refine ⟨b, Nat.lt_of_lt_of_le hb (Nat.pow_le_pow_right (by omega) (by omega)), fun i hi => ?_⟩
      by_cases e : i = n
      · subst e; rw [Nat.testBit_lt_two_pow hb, hp]
      · exact h i (by omega)
    | true =>
      refine ⟨b + 2 ^ n, by rw [Nat.pow_succ]; omega, fun i hi => ?_⟩
      by_cases e : i = n
      · subst e; rw [Nat.add_comm, Nat.testBit_two_pow_add_eq, Nat.testBit_lt_two_pow hb, hp]; rfl
      · rw [Nat.add_comm, Nat.testBit_two_pow_add_gt (by omega)]
        exact h i (by omega)
theorem list_bits {w : Wsh} {list : List Int} (h : isListV w list = true) : ∃ b, b < 2 ^ w.1.length ∧ bitsL w.1.length b = list := by
  obtain ⟨b, hb, hp⟩ := bits_of (fun i => list.contains (i : Int)) w.1.length
  refine ⟨b, hb, asc_unique (asc_filter _ _) ?_ fun x => ?_⟩
  · unfold isListV at h
    rw [Bool.and_eq_true] at h
    exact ascV_iff.1 h.2
  · constructor
    · intro hx
      have h2 := bitsL_mem hx
      obtain ⟨i, rfl⟩ := Int.eq_ofNat_of_zero_le h2.1
      have h3 := mem_bitsL.1 hx
      rw [hp i h3.1] at h3
      simpa using h3.2
    · intro hx
      have h2 := isSpareV_iff.1 (isListV_mem h x hx)
      obtain ⟨i, rfl⟩ := Int.eq_ofNat_of_zero_le h2.1
      refine mem_bitsL.2 ⟨by omega, ?_⟩
      rw [hp i (by omega)]
      simpa using hx
theorem fewest_min {w : Wsh} (h : smallW w) (hk : knownV w true = 0) {list : List Int} (hl : isListV w list = true) (hm : mendsAllV w list = true) :
    (fewestR w).2 = 0 ∧ (fewestR w).1 ≤ (list.length : Int) ∧ ((fewestR w).1 = (list.length : Int) → list ∈ listsV w) := by
  have hw := good_of_known h hk
  obtain ⟨b, hb, rfl⟩ := list_bits hl
  rcases lists_inv w (2 ^ w.1.length) with ⟨_, hn⟩ | ⟨k, hne, he, hmin⟩
  · have := hn b hb
    rw [show okB w b = true from hm] at this
    cases this
  · have he : listsV w = (upB w k (2 ^ w.1.length)).map (fun y => bitsL w.1.length y.toNat) := he
    have hk2 := hmin b hb hm
    have hfl : firstLen (listsV w) = (k : Int) := by
      rw [he]
      unfold firstLen
      cases hu : upB w k (2 ^ w.1.length) with
      | nil => exact absurd hu hne
      | cons x l =>
        have hx : x ∈ upB w k (2 ^ w.1.length) := by rw [hu]; simp
        simp only [upB, List.mem_map, List.mem_filter, Bool.and_eq_true, decide_eq_true_eq] at hx
        obtain ⟨b, ⟨_, hc, _⟩, rfl⟩ := hx
        simp [hc]
    have hlen : 0 < (listsV w).length := by rw [he, List.length_map]; exact List.length_pos_iff.2 hne
    have hf : fewestR w = ((k : Int), 0) := by
      unfold fewestR
      rw [if_neg (by simp [hk]), if_neg (by omega), hfl]
    rw [hf]
    refine ⟨rfl, by show (k : Int) ≤ _; omega, fun e => ?_⟩
    have e : (k : Int) = ((bitsL w.1.length b).length : Int) := e
    rw [he]
    refine List.mem_map.2 ⟨(b : Int), ?_, by rw [Int.toNat_natCast]⟩
    simp only [upB, List.mem_map, List.mem_filter, List.mem_range, Bool.and_eq_true, decide_eq_true_eq]
    exact ⟨b, ⟨hb, by omega, hm⟩, rfl⟩
theorem needed_mem {w : Wsh} {i : Int} (h : i ∈ (neededR w).1) : ∀ l ∈ listsV w, i ∈ l := by
  unfold neededR at h
  split at h
  · cases h
  · simp only [List.mem_map, List.mem_filter, decide_eq_true_eq] at h
    obtain ⟨k, ⟨_, h2⟩, rfl⟩ := h
    have h3 : ((listsV w).countP fun l => l.contains (k : Int)) = (listsV w).length := by omega
    rw [List.countP_eq_length] at h3
    intro l hl
    simpa using h3 l hl
theorem keep_mem {w : Wsh} (h : smallW w) (he : (fewestR w).2 = 0) : (keepV w).1 ∈ listsV w := by
  obtain ⟨hw, hk, e1, e2, e3, e4, e5⟩ := keep_ok h he
  exact (fewest_min h hk e3 e4).2.2 e1.symm
theorem needed_keep {w : Wsh} (h : smallW w) (he : (fewestR w).2 = 0) : subV (neededR w).1 (keepV w).1 = true ∧ (neededR w).1.length ≤ (keepV w).1.length := by
  have hm : ∀ x ∈ (neededR w).1, x ∈ (keepV w).1 := fun x hx => needed_mem hx _ (keep_mem h he)
  refine ⟨?_, ?_⟩
  · unfold subV
    rw [List.all_eq_true]
    exact fun x hx => by simpa using hm x hx
  · have hn : (neededR w).1.Nodup := by
      unfold neededR
      split
      · simp
      · exact nodup_map_int _ _
    have key : ∀ (a b : List Int), a.Nodup → (∀ x ∈ a, x ∈ b) → a.length ≤ b.length := by
      intro a
      induction a with
      | nil => intro b _ _; simp
      | cons x a ih =>
        intro b hn hs
        rw [List.nodup_cons] at hn
        have hx := hs x (by simp)
        have := ih (b.erase x) hn.2 fun y hy => (List.mem_erase_of_ne fun (e : y = x) => hn.1 (e ▸ hy)).2 (hs y (List.mem_cons_of_mem _ hy))
        rw [List.length_erase_of_mem hx] at this
        have := List.length_pos_of_mem hx
        simp only [List.length_cons]
        omega
    exact key _ _ hn hm
theorem fewestR_known {w : Wsh} (h : knownV w true = 0) : (fewestR w).2 = 0 ∨ fewestR w = (0, 3) := by
  unfold fewestR
  rw [if_neg (by simp [h])]
  split
  · exact .inr rfl
  · exact .inl rfl
theorem neededR_2 (w : Wsh) : (neededR w).2 = (fewestR w).2 := by
  unfold neededR
  split
  · rfl
  · rename_i hh; exact (Decidable.not_not.1 hh).symm
theorem neededR_err {w : Wsh} (h : (fewestR w).2 ≠ 0) : (neededR w).1 = [] := by unfold neededR; rw [if_pos h]
theorem lawLists (x : Wsh × List Int) (h : smallW x.1) (hl : x.2.length < 2 ^ 63) :
    S_law07_PartsLists fcReady.sh fcWorks.sh fcPFewest.sh fcPNeeded.sh fcIsSpare.sh fcKeep.sh fcAllM.sh fcSubset.sh fcAscending.sh x = M.pure true := by
  obtain ⟨w, list⟩ := x
  change smallW w at h
  change list.length < 2 ^ 63 at hl
  have hp1 : smallW w ∧ list.length < 2 ^ 63 := ⟨h, hl⟩
  unfold S_law07_PartsLists
  simp only [FC.sh, M.bind_det, M.req_true h, M.req_True, ofNat_def]
  by_cases hc : (!readyV w || decide ((list.length : Int) > 20)) = true
  · simp only [hc, if_true]
  · rw [if_neg hc]
    have hr : readyV w = true := by
      cases hrr : readyV w with
      | true => rfl
      | false => rw [hrr] at hc; simp at hc
    obtain ⟨hcp, hk⟩ := ready_of hr
    have hnl : (neededR w).1.length < 2 ^ 63 := by have := neededR_len (w := w); have := hcp.1; omega
    have g1 : (keepV w).2 = (fewestR w).2 := by
      by_cases he : (fewestR w).2 = 0
      · rw [he]; exact (keep_ok h he).2.2.2.1
      · rw [keep_err he]
    have g2 : (decide ((fewestR w).2 ≠ 0) && decide ((fewestR w).2 ≠ 3)) = false := by
      rcases fewestR_known hk with he | he
      · simp [he]
      · rw [he]; rfl
    have g3 : decide (((neededR w).1.length : Int) > (fewestR w).1) = false := by
      rw [decide_eq_false_iff_not]
      rcases fewestR_known hk with he | he
      · have := (needed_keep h he).2
        have := (keep_ok h he).2.2.1
        omega
      · rw [neededR_err (by rw [he]; decide), he]
        simp
    have g4 : decide (((keepV w).1.length : Int) ≠ (fewestR w).1) = false := by
      rw [decide_eq_false_iff_not]
      rcases fewestR_known hk with he | he
      · have := (keep_ok h he).2.2.1
        omega
      · rw [keep_err (by rw [he]; decide), he]
        simp
    have g5 : (keepV w).1.length < 2 ^ 63 := by
      by_cases he : (fewestR w).2 = 0
      · have := (keep_ok h he).2.2.2.2.2.2; omega
      · rw [keep_err he]; show 0 < 2 ^ 63; decide
    have g6 : (fewestR w).2 = 0 → allMk w (keepV w).1 = true := fun he => by
      obtain ⟨_, _, _, _, e3, e4, _⟩ := keep_ok h he
      rw [allM_iff hk e3]; exact e4
    have g7 : (fewestR w).2 = 0 → subV (neededR w).1 (keepV w).1 = true := fun he => (needed_keep h he).1
    have g8 : isListV w list = true → mendsAllV w list = true → (fewestR w).2 = 0 ∧ (fewestR w).1 ≤ (list.length : Int) ∧ ((fewestR w).1 = (list.length : Int) → subV (neededR w).1 list = true) := fun h1 h2 => by
      obtain ⟨q1, q2, q3⟩ := fewest_min h hk h1 h2
      refine ⟨q1, q2, fun e => ?_⟩
      unfold subV
      rw [List.all_eq_true]
      exact fun x hx => by simpa using needed_mem hx _ (q3 e)
    have hq1 : smallW w ∧ (keepV w).1.length < 2 ^ 63 := ⟨h, g5⟩
    have hq2 : (neededR w).1.length < 2 ^ 63 ∧ (keepV w).1.length < 2 ^ 63 := ⟨hnl, g5⟩
    have hq3 : (neededR w).1.length < 2 ^ 63 ∧ list.length < 2 ^ 63 := ⟨hnl, hl⟩
    simp only [M.req_true h, neededR_2, g1, g2, g3, g4, ne_eq, not_true, decide_false, Bool.or_self, Bool.false_eq_true, if_false, M.gdo_det, M.bind_det]
    rw [M.req_true (by exact fun _ => hq1), M.req_true (by exact fun _ => hq2)]
    rw [if_neg (by
      by_cases he : (fewestR w).2 = 0
      · simp [he, g6 he, g7 he]
      · simp [he])]
    rw [M.loop_listT list (fun i (_ : Unit) => (list, (fewestR w).1, (fewestR w).2, (neededR w).1, (i : Int), w, ())) (fun x u => if (!isSpareV w x) = true then .done (.done true) else .next u) (fun _ => .next (list, (fewestR w).1, (fewestR w).2, (neededR w).1, w, ())) () ?_ ?_ ?_]
    · rw [foldS_anyN (q := isSpareV w) _ _ (fun x => rfl)]
      by_cases hs : list.all (isSpareV w) = true
      · simp only [hs, if_true, M.bind_pure, M.go_next, M.req_true hl]
        rw [M.req_true (by exact fun _ => hp1)]
        by_cases ha : ascV list = true
        · have hil : isListV w list = true := by unfold isListV; rw [hs, ha]; rfl
          simp only [ha, Bool.not_true, Bool.not_false, if_true, Bool.false_or, allM_iff hk hil]
          by_cases hm : mendsAllV w list = true
          · obtain ⟨q1, q2, q3⟩ := g8 hil hm
            simp only [hm, Bool.not_true, Bool.false_eq_true, if_false, q1, decide_true, Bool.true_and, q2]
            rw [M.req_true (by exact fun _ => hq3)]
            by_cases hlt : (fewestR w).1 < (list.length : Int)
            · simp [hlt]
            · have := q3 (by omega)
              simp [hlt, this]
          · simp [hm]
        · simp [ha]
      · simp only [hs, Bool.false_eq_true, if_false, M.bind_pure, M.go_done]
    · rfl
    · intro i hi u
      have hwi := wrap64 (n := (i : Int) + 1) (by omega) (by omega)
      simp only [lt_len hi, if_true, in_len hi, M.req_True, getD_nat hi, M.safe_det, M.val_det, M.req_true h, M.bind_pure, add_def, hwi]
      exact fin_step (mk := fun _ : Unit => (list, (fewestR w).1, (fewestR w).2, (neededR w).1, (i : Int) + 1, w, ()))
    · intro u
      simp
end Go.Fer
namespace Go.Fer
open M (Step)
set_option linter.unusedVariables false
set_option linter.unusedSimpArgs false
theorem fitsAt_congr {v w : Wsh} {i n m k : Int} (h1 : spareAt v i = spareAt w i) (h2 : slotsOfV v m = slotsOfV w m) (h3 : v.2.2.1 = w.2.2.1) : fitsAt v i n m k = fitsAt w i n m k := by
  unfold fitsAt slotAt
  rw [h1, h2, h3]
theorem lens_congr {v w : Wsh} {i : Int} (h1 : spareAt v i = spareAt w i) (h2 : ∀ t ∈ w.2.2.2, slotsOfV v t.2.1 = slotsOfV w t.2.1) (h3 : v.2.2.1 = w.2.2.1) (h4 : v.2.2.2 = w.2.2.2) : lens v i = lens w i := by
  unfold lens
  rw [h1]
  refine List.filter_congr fun n _ => ?_
  unfold canBe
  rw [h1, h4]
  congr 1
  exact all_congr' fun t ht => by unfold bears; rw [fitsAt_congr h1 (h2 t ht) h3]
theorem caseV_congr {v w : Wsh} {i m : Int} (h1 : spareAt v i = spareAt w i) (h2 : slotsOfV v m = slotsOfV w m) (h3 : v.2.2.1 = w.2.2.1) (h4 : lens v i = lens w i) : caseV v i m = caseV w i m := by
  unfold caseV
  rw [h4]
  congr 1
  funext own n
  congr 1
  unfold covV covN
  rw [h2]
  congr 2
  funext b k
  rw [fitsAt_congr h1 h2 h3]
theorem canV_congr {a b : List (List Int)} {list : List Int} (h : ∀ i ∈ list, a.getD i.toNat [] = b.getD i.toNat []) : canV a list = canV b list := by
  unfold canV
  generalize ([0] : List Int) = c
  induction list generalizing c with
  | nil => rfl
  | cons i l ih =>
    simp only [List.foldl_cons]
    rw [h i (by simp)]
    exact ih (fun j hj => h j (List.mem_cons_of_mem _ hj)) _
theorem mendV_congr {v w : Wsh} {list : List Int} {m : Int} (hi : ∀ i ∈ list, isSpareV v i = true ∧ isSpareV w i = true ∧ spareAt v i = spareAt w i ∧ lens v i = lens w i) (h2 : slotsOfV v m = slotsOfV w m) (h3 : v.2.2.1 = w.2.2.1) : mendV v list m = mendV w list m := by
  unfold mendV mendsV
  have : canV (casesV v m) list = canV (casesV w m) list := canV_congr fun i h => by
    obtain ⟨a, b, c, d⟩ := hi i h
    rw [casesV_get a, casesV_get b, caseV_congr c h2 h3 d]
  rw [this]
  unfold fullV
  rw [h2]
def plusS (w : Wsh) (s : Spr) : Wsh := (w.1 ++ [s], w.2)
theorem plus_spare {w : Wsh} {s : Spr} {i : Int} (h : isSpareV w i = true) : isSpareV (plusS w s) i = true ∧ spareAt (plusS w s) i = spareAt w i := by
  have r := isSpareV_iff.1 h
  refine ⟨isSpareV_iff.2 ⟨r.1, by have e : (plusS w s).1.length = w.1.length + 1 := by simp [plusS]
                                  omega⟩, ?_⟩
  unfold spareAt plusS
  simp only
  rw [List.getD_eq_getElem?_getD, List.getD_eq_getElem?_getD, List.getElem?_append_left (by omega)]
theorem plus_mends {w : Wsh} {s : Spr} {list : List Int} (h : ∀ i ∈ list, isSpareV w i = true) : mendsAllV (plusS w s) list = mendsAllV w list := by
  unfold mendsAllV
  show ((List.range w.2.1.length).all fun (m : Nat) => decide (mendV (plusS w s) list (m : Int) = 1)) = _
  refine all_congr' fun m hm => ?_
  rw [mendV_congr (v := plusS w s) (w := w) (fun i hi => ⟨(plus_spare (h i hi)).1, h i hi, (plus_spare (h i hi)).2, lens_congr (plus_spare (h i hi)).2 (fun t _ => rfl) rfl rfl⟩) rfl rfl]
theorem plus_list {w : Wsh} {s : Spr} {list : List Int} (h : isListV w list = true) : isListV (plusS w s) list = true := by
  unfold isListV at h ⊢
  rw [Bool.and_eq_true, List.all_eq_true] at h ⊢
  exact ⟨fun i hi => (plus_spare (h.1 i hi)).1, h.2⟩
theorem fewest_list {w : Wsh} (h : smallW w) (he : (fewestR w).2 = 0) : knownV w true = 0 ∧ isListV w (keepV w).1 = true ∧ mendsAllV w (keepV w).1 = true ∧ (fewestR w).1 = ((keepV w).1.length : Int) := by
  obtain ⟨_, q0, q1, _, q2, q3, _⟩ := keep_ok h he
  exact ⟨q0, q2, q3, q1.symm⟩
theorem more_less {w : Wsh} {s : Spr} (h : smallW w) (hs : smallW (plusS w s)) (hk : knownV (plusS w s) true = 0) (he : (fewestR w).2 = 0) : (fewestR (plusS w s)).2 = 0 ∧ (fewestR (plusS w s)).1 ≤ (fewestR w).1 := by
  obtain ⟨_, q1, q2, q3⟩ := fewest_list h he
  obtain ⟨r1, r2, _⟩ := fewest_min hs hk (plus_list q1) (by rw [plus_mends (isListV_mem q1)]; exact q2)
  exact ⟨r1, by rw [q3]; exact r2⟩
def lessM (w : Wsh) : Wsh := (w.1, w.2.1.take (w.2.1.length - 1), w.2.2)
theorem less_slots {w : Wsh} {m : Int} (h : isMakeV (lessM w) m = true) : isMakeV w m = true ∧ slotsOfV (lessM w) m = slotsOfV w m := by
  have r := isMakeV_iff.1 h
  have hl : (lessM w).2.1.length = w.2.1.length - 1 := by unfold lessM; simp
  refine ⟨isMakeV_iff.2 ⟨r.1, by omega⟩, ?_⟩
  unfold slotsOfV lessM
  simp only
  rw [List.getD_eq_getElem?_getD, List.getD_eq_getElem?_getD, List.getElem?_take, if_pos (by omega)]
theorem table_slots {w : Wsh} (hw : goodW w) : ∀ t ∈ w.2.2.2, isSpareV w t.1 = true ∧ isMakeV w t.2.1 = true := fun t ht => by
  have := hw.2
  unfold wV at this
  simp only [Bool.and_eq_true, List.all_eq_true] at this
  have h2 := this.2 t ht
  unfold trialV isSlotOfV at h2
  simp only [Bool.and_eq_true] at h2
  exact ⟨h2.1.1, h2.1.2.1⟩
theorem less_less {w : Wsh} (h : smallW w) (hs : smallW (lessM w)) (hk : knownV (lessM w) true = 0) (he : (fewestR w).2 = 0) : (fewestR (lessM w)).2 = 0 ∧ (fewestR (lessM w)).1 ≤ (fewestR w).1 := by
  obtain ⟨_, q1, q2, q3⟩ := fewest_list h he
  have hg := good_of_known hs hk
  have hlens : ∀ i, lens (lessM w) i = lens w i := fun i => lens_congr rfl (fun t ht => (less_slots (table_slots hg t ht).2).2) rfl rfl
  have hm : mendsAllV (lessM w) (keepV w).1 = true := by
    unfold mendsAllV at q2 ⊢
    rw [List.all_eq_true] at q2 ⊢
    intro m hm
    have hm : m < (lessM w).2.1.length := by simpa using hm
    have hmk := isMakeV_nat hm
    have hmw := less_slots hmk
    have hml := isMakeV_iff.1 hmw.1
    have := q2 m (by simp; omega)
    rw [mendV_congr (v := lessM w) (w := w) (fun i hi => ⟨isListV_mem q1 i hi, isListV_mem q1 i hi, rfl, hlens i⟩) hmw.2 rfl]
    exact this
  obtain ⟨r1, r2, _⟩ := fewest_min hs hk (list := (keepV w).1) q1 hm
  exact ⟨r1, by rw [q3]; exact r2⟩
def lessS (w : Wsh) : Wsh := (w.1.take (w.1.length - 1), w.2)
theorem plus_less {w : Wsh} (h : w.1 ≠ []) : ∃ s, w = plusS (lessS w) s := by
  refine ⟨w.1.getLast h, ?_⟩
  unfold plusS lessS
  simp only
  rw [← List.dropLast_eq_take, List.dropLast_concat_getLast h]
theorem take_small {α : Type} {l : List α} {n k : Nat} (h : l.length < k) : (l.take n).length < k := by rw [List.length_take]; omega
theorem lessS_small {w : Wsh} (h : smallW w) : smallW (lessS w) := ⟨take_small h.1, h.2⟩
theorem lessM_small {w : Wsh} (h : smallW w) : smallW (lessM w) := ⟨h.1, take_small h.2.1, h.2.2.1, fun m hm => h.2.2.2 m (List.mem_of_mem_take hm)⟩
theorem plusS_small {w : Wsh} (h : copyW w) (s : Spr) : smallW (plusS w s) := by
  have := h.1
  exact ⟨by have e : (plusS w s).1.length = w.1.length + 1 := by simp [plusS]
            omega, h.small.2⟩
theorem last_needed {w : Wsh} (h : smallW w) (hn : w.1 ≠ []) (hk : knownV w true = 0) (hk2 : knownV (lessS w) true = 0) (he : (fewestR w).2 = 0) :
    (((fewestR (lessS w)).2 = 0 → (fewestR w).1 ≤ (fewestR (lessS w)).1) ∧ ((neededR w).1.contains ((w.1.length : Int) - 1) = true ↔ ((fewestR (lessS w)).2 ≠ 0 ∨ (fewestR w).1 < (fewestR (lessS w)).1))) := by
  have hs2 := lessS_small h
  obtain ⟨s, hs⟩ := plus_less hn
  have hpos : 0 < w.1.length := List.length_pos_iff.2 hn
  have hll : (lessS w).1.length = w.1.length - 1 := by unfold lessS; simp
  have hml : (fewestR (lessS w)).2 = 0 → (fewestR w).1 ≤ (fewestR (lessS w)).1 := fun he2 => by
    have := more_less (w := lessS w) (s := s) hs2 (hs ▸ h) (hs ▸ hk) he2
    rw [← hs] at this
    exact this.2
  refine ⟨hml, ?_⟩
  constructor
  · intro hc
    have hc : ((w.1.length : Int) - 1) ∈ (neededR w).1 := by simpa using hc
    by_cases he2 : (fewestR (lessS w)).2 = 0
    · refine .inr (Decidable.byContradiction fun hlt => ?_)
      have e : (fewestR w).1 = (fewestR (lessS w)).1 := by have := hml he2; omega
      obtain ⟨_, q1, q2, q3⟩ := fewest_list hs2 he2
      have hl : isListV w (keepV (lessS w)).1 = true := by
        have := plus_list (s := s) q1
        rwa [← hs] at this
      have hm : mendsAllV w (keepV (lessS w)).1 = true := by
        have := plus_mends (w := lessS w) (s := s) (isListV_mem q1)
        rw [← hs] at this
        rw [this]; exact q2
      have hin := (fewest_min h hk hl hm).2.2 (by rw [e, q3])
      have := needed_mem hc _ hin
      have := isSpareV_iff.1 (isListV_mem q1 _ this)
      omega
    · exact .inl he2
  · intro hc
    by_cases hcon : (neededR w).1.contains ((w.1.length : Int) - 1) = true
    · exact hcon
    · exfalso
      have hcon : ((w.1.length : Int) - 1) ∉ (neededR w).1 := by simpa using hcon
      have hex : ∃ l ∈ listsV w, ((w.1.length : Int) - 1) ∉ l := by
        by_cases hall : ∃ l ∈ listsV w, ((w.1.length : Int) - 1) ∉ l
        · exact hall
        · exfalso
          refine hcon ?_
          unfold neededR
          rw [if_neg (by simp [he])]
          simp only [List.mem_map, List.mem_filter, List.mem_range, decide_eq_true_eq]
          refine ⟨w.1.length - 1, ⟨by omega, ?_⟩, by omega⟩
          have : ((listsV w).countP fun l => l.contains ((w.1.length - 1 : Nat) : Int)) = (listsV w).length := by
            rw [List.countP_eq_length]
            intro l hl
            have e : ((w.1.length - 1 : Nat) : Int) = (w.1.length : Int) - 1 := by omega
            rw [e]
            by_cases hx : ((w.1.length : Int) - 1) ∈ l
            · simpa using hx
            · exact absurd ⟨l, hl, hx⟩ hall
          omega
      obtain ⟨l, hl, hnl⟩ := hex
      have hw := good_of_known h hk
      have hlst : isListV w l = true ∧ mendsAllV w l = true ∧ (l.length : Int) = (fewestR w).1 := by
        rcases lists_inv w (2 ^ w.1.length) with ⟨e, _⟩ | ⟨k, hne, e, _⟩
        · have e : listsV w = [] := e
          rw [e] at hl; cases hl
        · have e : listsV w = (upB w k (2 ^ w.1.length)).map (fun y => bitsL w.1.length y.toNat) := e
          have hkeep := keep_mem h he
          have hlk := (keep_ok h he).2.2.1
          have key : ∀ l ∈ listsV w, isListV w l = true ∧ mendsAllV w l = true ∧ l.length = k := by
            intro l hl
            rw [e] at hl
            obtain ⟨y, hy, rfl⟩ := List.mem_map.1 hl
            simp only [upB, List.mem_map, List.mem_filter, List.mem_range, Bool.and_eq_true, decide_eq_true_eq] at hy
            obtain ⟨b, ⟨hb, hc, ho⟩, rfl⟩ := hy
            exact ⟨isListV_bitsL w _, ho, hc⟩
          have k1 := key l hl
          have k2 := key _ hkeep
          exact ⟨k1.1, k1.2.1, by rw [← hlk]; omega⟩
      have hsp : ∀ i ∈ l, isSpareV (lessS w) i = true := fun i hi => by
        have := isSpareV_iff.1 (isListV_mem hlst.1 i hi)
        have hne : i ≠ (w.1.length : Int) - 1 := fun e => hnl (e ▸ hi)
        exact isSpareV_iff.2 ⟨this.1, by omega⟩
      have hl2 : isListV (lessS w) l = true := by
        have := hlst.1
        unfold isListV at this ⊢
        rw [Bool.and_eq_true] at this ⊢
        exact ⟨List.all_eq_true.2 hsp, this.2⟩
      have hm2 : mendsAllV (lessS w) l = true := by
        have := plus_mends (w := lessS w) (s := s) hsp
        rw [← hs] at this
        rw [← this]; exact hlst.2.1
      obtain ⟨r1, r2, _⟩ := fewest_min hs2 hk2 hl2 hm2
      rcases hc with hc | hc
      · exact hc r1
      · omega
theorem ite_same {α : Type} {c : Bool} {a b : α} (h : c = true → a = b) : (if c = true then a else b) = b := by
  cases c with
  | false => rfl
  | true => exact h rfl
theorem lawLess (x : Wsh × Spr) (h : smallW x.1) :
    S_law07_PartsLess fcReady.sh fcWorks.sh fcPFewest.sh fcPNeeded.sh shCopyIO fcIn.sh x = M.pure true := by
  obtain ⟨w, s⟩ := x
  change smallW w at h
  unfold S_law07_PartsLess
  simp only [FC.sh, M.bind_det, M.req_true h, M.req_True, ofNat_def]
  by_cases hc : (!readyV w || decide ((w.1.length : Int) > 5)) = true
  · simp only [hc, if_true]
  · rw [if_neg hc]
    have hr : readyV w = true := by
      cases hrr : readyV w with
      | true => rfl
      | false => rw [hrr] at hc; simp at hc
    obtain ⟨hcp, hk⟩ := ready_of hr
    have h2 : (decide ((fewestR w).2 ≠ 0) && decide ((fewestR w).2 ≠ 3)) = false := by
      rcases fewestR_known hk with he | he
      · simp [he]
      · rw [he]; rfl
    have hnl : (neededR w).1.length < 2 ^ 63 := by have := neededR_len (w := w); have := hcp.1; omega
    have hcl := hcp.1
    have hll1 : lenLe (w.1.length + (0 + 1)) := by unfold lenLe; omega
    have bad : ∀ {v : Wsh}, smallW v → readyV v = true → ((fewestR w).2 = 0 → (fewestR v).2 = 0 ∧ (fewestR v).1 ≤ (fewestR w).1) →
        (decide ((fewestR w).2 = 0) && (decide ((fewestR v).2 ≠ 0) || decide ((fewestR v).1 > (fewestR w).1)) || decide ((fewestR v).2 ≠ 0) && decide ((fewestR v).2 ≠ 3)) = false := fun {v} hv hrv hh => by
      have hkv := (ready_of hrv).2
      by_cases he : (fewestR w).2 = 0
      · obtain ⟨a, b⟩ := hh he
        have : ¬ (fewestR v).1 > (fewestR w).1 := by omega
        simp [he, a, this]
      · rcases fewestR_known hkv with e | e
        · simp [he, e]
        · simp [he, e]
    simp only [neededR_2, ne_eq, not_true, decide_false, Bool.false_or, h2, Bool.false_eq_true, if_false]
    unfold shCopyIO
    simp only [M.bind_det]
    rw [M.req_true (by exact hcp)]
    simp only [add_defN, M.req_true hll1]
    have e1 : (w.1 ++ [s], w.2.1, w.2.2.1, w.2.2.2) = plusS w s := rfl
    simp only [ne_eq] at bad
    have hms := plusS_small hcp s
    simp only [e1, M.req_true hms]
    rw [ite_same (c := readyV (plusS w s)) (fun hr1 => if_neg (by
      rw [bad hms hr1 fun he => more_less h hms (ready_of hr1).2 he]
      simp))]
    simp only [M.bind_pure, M.go_next]
    rw [M.req_true (by exact hcp)]
    have hsecond : ∀ (k : Int × Int × List Int × Wsh × Unit → M Bool), M.bind (if decide ((w.2.1.length : Int) > 0) = true then M.req ((0 : Int) ≤ 0 ∧ 0 ≤ IntKind.i64.wrap ((w.2.1.length : Int) - 1) ∧ IntKind.i64.wrap ((w.2.1.length : Int) - 1) ≤ (w.2.1.length : Int))
        (M.req (smallW (w.1, List.take (Int.toNat (IntKind.i64.wrap ((w.2.1.length : Int) - 1))) w.2.1, w.2.2.1, w.2.2.2)) (if readyV (w.1, List.take (Int.toNat (IntKind.i64.wrap ((w.2.1.length : Int) - 1))) w.2.1, w.2.2.1, w.2.2.2) = true then
          M.req (smallW (w.1, List.take (Int.toNat (IntKind.i64.wrap ((w.2.1.length : Int) - 1))) w.2.1, w.2.2.1, w.2.2.2)) (if (decide ((fewestR w).2 = 0) && (decide (¬ (fewestR (w.1, List.take (Int.toNat (IntKind.i64.wrap ((w.2.1.length : Int) - 1))) w.2.1, w.2.2.1, w.2.2.2)).2 = 0) || decide ((fewestR (w.1, List.take (Int.toNat (IntKind.i64.wrap ((w.2.1.length : Int) - 1))) w.2.1, w.2.2.1, w.2.2.2)).1 > (fewestR w).1)) || decide (¬ (fewestR (w.1, List.take (Int.toNat (IntKind.i64.wrap ((w.2.1.length : Int) - 1))) w.2.1, w.2.2.1, w.2.2.2)).2 = 0) && decide (¬ (fewestR (w.1, List.take (Int.toNat (IntKind.i64.wrap ((w.2.1.length : Int) - 1))) w.2.1, w.2.2.1, w.2.2.2)).2 = 3)) = true then
            M.pure (Step.done false) else M.pure (Step.next ((fewestR w).1, (fewestR w).2, (neededR w).1, w, ()))) else M.pure (Step.next ((fewestR w).1, (fewestR w).2, (neededR w).1, w, ())))) else M.pure (Step.next ((fewestR w).1, (fewestR w).2, (neededR w).1, w, ()))) (Step.go k) = k ((fewestR w).1, (fewestR w).2, (neededR w).1, w, ()) := fun k => by
      by_cases hm : (w.2.1.length : Int) > 0
      · have hml := hcp.2.1
        have hwm := wrap64 (n := (w.2.1.length : Int) - 1) (by omega) (by omega)
        have htn : Int.toNat ((w.2.1.length : Int) - 1) = w.2.1.length - 1 := by omega
        have e2 : (w.1, List.take (w.2.1.length - 1) w.2.1, w.2.2.1, w.2.2.2) = lessM w := rfl
        have hrq : (0 : Int) ≤ 0 ∧ 0 ≤ (w.2.1.length : Int) - 1 ∧ (w.2.1.length : Int) - 1 ≤ (w.2.1.length : Int) := by omega
        have hsm := lessM_small h
        simp only [hm, decide_true, if_true, hwm, htn, e2, M.req_true hrq, M.req_true hsm]
        rw [ite_same (c := readyV (lessM w)) (fun hr1 => if_neg (by
          rw [bad hsm hr1 fun he => less_less h hsm (ready_of hr1).2 he]
          simp))]
        simp only [M.bind_pure, M.go_next]
      · simp only [hm, decide_false, Bool.false_eq_true, if_false, M.bind_pure, M.go_next]
    rw [hsecond]
    rw [M.req_true (by exact hcp)]
    by_cases hz : (w.1.length : Int) = 0
    · simp only [hz, decide_true, if_true]
    · have hwm := wrap64 (n := (w.1.length : Int) - 1) (by omega) (by omega)
      have htn : Int.toNat ((w.1.length : Int) - 1) = w.1.length - 1 := by omega
      have e2 : (List.take (w.1.length - 1) w.1, w.2.1, w.2.2.1, w.2.2.2) = lessS w := rfl
      have hrq : (0 : Int) ≤ 0 ∧ 0 ≤ (w.1.length : Int) - 1 ∧ (w.1.length : Int) - 1 ≤ (w.1.length : Int) := by omega
      have hsm := lessS_small h
      have hne : w.1 ≠ [] := by
        intro e
        rw [e] at hz
        exact hz rfl
      simp only [hz, decide_false, Bool.false_eq_true, if_false, hwm, htn, e2, M.req_true hrq, M.req_true hsm]
      by_cases hr2 : readyV (lessS w) = true
      · have hk2 := (ready_of hr2).2
        simp only [hr2, Bool.not_true, Bool.false_eq_true, if_false, M.gdo_det, M.bind_det]
        obtain ⟨s', hs'⟩ := plus_less hne
        have hmore : (fewestR (lessS w)).2 = 0 → (fewestR w).2 = 0 ∧ (fewestR w).1 ≤ (fewestR (lessS w)).1 := fun he2 => by
          have := more_less (w := lessS w) (s := s') hsm (hs' ▸ h) (hs' ▸ hk) he2
          rwa [← hs'] at this
        rw [if_neg (by
          rcases fewestR_known hk2 with e | e
          · obtain ⟨a, b⟩ := hmore e
            have : ¬ (fewestR (lessS w)).1 < (fewestR w).1 := by omega
            simp [e, a, this]
          · simp [e])]
        rw [M.req_true (by exact fun _ => hnl)]
        by_cases he : (fewestR w).2 = 0
        · have hln := (last_needed h hne hk hk2 he).2
          have hd : ((neededR w).1.contains ((w.1.length : Int) - 1)) = (decide (¬ (fewestR (lessS w)).2 = 0) || decide ((fewestR (lessS w)).1 > (fewestR w).1)) := by
            rw [Bool.eq_iff_iff, hln]
            simp
          simp only [hd, he]
          simp
        · simp [he]
      · simp only [hr2, Bool.not_false, if_true]
end Go.Fer
namespace Go.Fer
open M (Step)
set_option linter.unusedVariables false
set_option linter.unusedSimpArgs false
abbrev fcIsAsk : FC := ⟨.prod tW (.prod tI (.prod tI tI)), tB, fun x => smallW x.1, fun x => isSpareV x.1 x.2.1 && isSlotOfV x.1 x.2.2.1 x.2.2.2⟩
theorem sIsAsk (x) : M.le (S_law07_isAsk fcIsSpare.sh fcIsSlotOf.sh x) (fcIsAsk.sh x) := M.le_det fun h => by
  have hp := h
  unfold S_law07_isAsk
  simp only [FC.sh, M.bind_det, M.req_true hp, M.gdo_det]
  rw [M.req_true (by exact fun _ => hp)]
  simp only [and_gdo]
def plusT (w : Wsh) (t : Trl) : Wsh := (w.1, w.2.1, w.2.2.1, w.2.2.2 ++ [t])
theorem plusT_lens (w : Wsh) (t : Trl) (i : Int) : lens (plusT w t) i = (lens w i).filter fun n => bears w i n t := by
  unfold lens
  rw [List.filter_filter]
  refine List.filter_congr fun n _ => ?_
  unfold canBe
  show ((w.2.2.2 ++ [t]).all (bears w i n) && _) = _
  rw [List.all_append]
  simp only [List.all_cons, List.all_nil, Bool.and_true]
  show (_ && bears w i n t && _) = (bears w i n t && (_ && _))
  cases bears w i n t <;> simp [spareAt, plusT]
theorem plusT_sub {w : Wsh} {t : Trl} {i n : Int} (h : n ∈ lens (plusT w t) i) : n ∈ lens w i := by
  rw [plusT_lens] at h
  exact (List.mem_filter.1 h).1
theorem plusT_cov (w : Wsh) (t : Trl) (i n m : Int) : covV (plusT w t) i n m = covV w i n m := rfl
theorem plusT_case {w : Wsh} {t : Trl} {i m x : Int} (h : x ∈ caseV (plusT w t) i m) : x ∈ caseV w i m := by
  rw [mem_caseV] at h ⊢
  obtain ⟨n, hn, e⟩ := h
  exact ⟨n, plusT_sub hn, e⟩
theorem canV_mono {a b : List (List Int)} : ∀ {list c d : List Int}, (∀ i ∈ list, ∀ x ∈ a.getD i.toNat [], x ∈ b.getD i.toNat []) → (∀ x ∈ c, x ∈ d) →
    ∀ x ∈ list.foldl (fun can i => stepC can (a.getD i.toNat [])) c, x ∈ list.foldl (fun can i => stepC can (b.getD i.toNat [])) d
  | [], c, d, _, h => h
  | i :: l, c, d, h, hcd => by
    simp only [List.foldl_cons]
    refine canV_mono (fun j hj => h j (List.mem_cons_of_mem _ hj)) fun x hx => ?_
    rw [mem_stepC] at hx ⊢
    obtain ⟨y, hy, z, hz, e⟩ := hx
    exact ⟨y, h i (by simp) y hy, z, hcd z hz, e⟩
theorem canV_ne {a : List (List Int)} : ∀ {list c : List Int}, (∀ i ∈ list, a.getD i.toNat [] ≠ []) → c ≠ [] → list.foldl (fun can i => stepC can (a.getD i.toNat [])) c ≠ []
  | [], c, _, h => h
  | i :: l, c, h, hc => by
    simp only [List.foldl_cons]
    refine canV_ne (fun j hj => h j (List.mem_cons_of_mem _ hj)) ?_
    obtain ⟨y, hy⟩ := List.exists_mem_of_ne_nil _ (h i (by simp))
    obtain ⟨z, hz⟩ := List.exists_mem_of_ne_nil _ hc
    exact List.ne_nil_of_mem (mem_stepC.2 ⟨y, hy, z, hz, rfl⟩)
theorem isV_1 {α : Type} {f : α → Bool} {l : List α} : isV (l.countP f : Int) (l.length : Int) = 1 ↔ ∀ x ∈ l, f x = true := by
  unfold isV
  have : ((l.countP f : Nat) : Int) = (l.length : Int) ↔ l.countP f = l.length := by omega
  rw [← List.countP_eq_length, ← this]
  constructor
  · intro h
    split at h
    · assumption
    · split at h <;> cases h
  · intro h; rw [if_pos h]
theorem isV_2 {α : Type} {f : α → Bool} {l : List α} (hne : l ≠ []) : isV (l.countP f : Int) (l.length : Int) = 2 ↔ ∀ x ∈ l, ¬ f x = true := by
  unfold isV
  have hl := List.length_pos_iff.2 hne
  have : ((l.countP f : Nat) : Int) = 0 ↔ l.countP f = 0 := by omega
  rw [← List.countP_eq_zero, ← this]
  constructor
  · intro h
    split at h
    · cases h
    · split at h
      · assumption
      · cases h
  · intro h
    rw [if_neg (by omega), if_pos h]
theorem isV_cases (a b : Int) : isV a b = 1 ∨ isV a b = 2 ∨ isV a b = 3 := by
  unfold isV
  split
  · exact .inl rfl
  · split
    · exact .inr (.inl rfl)
    · exact .inr (.inr rfl)
theorem isV_mono {α : Type} {f : α → Bool} {l k : List α} (hs : ∀ x ∈ k, x ∈ l) (hne : k ≠ []) (h : isV (l.countP f : Int) (l.length : Int) ≠ 3) : isV (l.countP f : Int) (l.length : Int) = isV (k.countP f : Int) (k.length : Int) := by
  obtain ⟨y, hy⟩ := List.exists_mem_of_ne_nil _ hne
  have hl : l ≠ [] := List.ne_nil_of_mem (hs y hy)
  rcases isV_cases (l.countP f : Int) (l.length : Int) with e | e | e
  · rw [e]
    rw [isV_1] at e
    exact (isV_1.2 fun x hx => e x (hs x hx)).symm
  · rw [e]
    rw [isV_2 hl] at e
    exact ((isV_2 hne).2 fun x hx => e x (hs x hx)).symm
  · exact absurd e h
theorem intR_asc (a b : Int) : (intR a b).Pairwise (· < ·) := List.Pairwise.map _ (fun i j (h : i < j) => by omega) List.pairwise_lt_range
theorem lens_asc (w : Wsh) (i : Int) : (lens w i).Pairwise (· < ·) := (intR_asc _ _).filter _
theorem asc_ends {l : List Int} (h : l.Pairwise (· < ·)) {x : Int} (hx : x ∈ l) : l.getD 0 0 ≤ x ∧ x ≤ l.getD (l.length - 1) 0 := by
  obtain ⟨i, hi, rfl⟩ := List.mem_iff_getElem.1 hx
  rw [List.pairwise_iff_getElem] at h
  rw [List.getD_eq_getElem?_getD, List.getD_eq_getElem?_getD, List.getElem?_eq_getElem (by omega), List.getElem?_eq_getElem (by omega)]
  simp only [Option.getD_some]
  constructor
  · by_cases e : i = 0
    · subst e; exact Int.le_refl _
    · exact Int.le_of_lt (h 0 i (by omega) hi (by omega))
  · by_cases e : i = l.length - 1
    · have : l[i] = l[l.length - 1] := by congr 1
      omega
    · exact Int.le_of_lt (h i (l.length - 1) hi (by omega) (by omega))
theorem ends_mem {l : List Int} (h : 0 < l.length) : l.getD 0 0 ∈ l ∧ l.getD (l.length - 1) 0 ∈ l := by
  rw [List.getD_eq_getElem?_getD, List.getD_eq_getElem?_getD, List.getElem?_eq_getElem (by omega), List.getElem?_eq_getElem (by omega)]
  exact ⟨List.getElem_mem _, List.getElem_mem _⟩
theorem trial_length {w : Wsh} {t : Trl} (hk2 : knownV (plusT w t) true = 0) {i : Int} (hi : isSpareV w i = true) :
    (lens w i).getD 0 0 ≤ (lens (plusT w t) i).getD 0 0 ∧ (lens (plusT w t) i).getD ((lens (plusT w t) i).length - 1) 0 ≤ (lens w i).getD ((lens w i).length - 1) 0 := by
  have hp := lens_pos (knownV_0 hk2).2.2 (i := i) hi
  obtain ⟨h1, h2⟩ := ends_mem hp
  exact ⟨(asc_ends (lens_asc w i) (plusT_sub h1)).1, (asc_ends (lens_asc w i) (plusT_sub h2)).2⟩
theorem trial_fits {w : Wsh} {t : Trl} (hk2 : knownV (plusT w t) true = 0) {i m k : Int} (hi : isSpareV w i = true) (h : fitsV w i m k ≠ 3) : fitsV w i m k = fitsV (plusT w t) i m k := by
  have hp := lens_pos (knownV_0 hk2).2.2 (i := i) hi
  exact isV_mono (f := fun n => fitsAt w i n m k) (fun n hn => plusT_sub hn) (List.length_pos_iff.1 hp) h
theorem trial_mends {w : Wsh} {t : Trl} (hk2 : knownV (plusT w t) true = 0) {list : List Int} (hl : ∀ i ∈ list, isSpareV w i = true) {m : Int} (h : mendV w list m ≠ 3) : mendV w list m = mendV (plusT w t) list m := by
  refine isV_mono (f := fun b => decide (b = fullV w m)) ?_ ?_ h
  · refine canV_mono (fun i hi x hx => ?_) fun x hx => hx
    have h1 := hl i hi
    rw [casesV_get (w := plusT w t) h1] at hx
    rw [casesV_get h1]
    exact plusT_case hx
  · refine canV_ne (fun i hi => ?_) (by simp)
    have h1 := hl i hi
    rw [casesV_get (w := plusT w t) h1]
    have hp := lens_pos (knownV_0 hk2).2.2 (i := i) h1
    obtain ⟨h2, _⟩ := ends_mem hp
    exact List.ne_nil_of_mem (mem_caseV.2 ⟨_, h2, rfl⟩)
theorem trial_few {w : Wsh} {t : Trl} (h : smallW w) (hs : smallW (plusT w t)) (hk2 : knownV (plusT w t) true = 0) (he : (fewestR w).2 = 0) : (fewestR (plusT w t)).2 = 0 ∧ (fewestR (plusT w t)).1 ≤ (fewestR w).1 := by
  obtain ⟨_, q1, q2, q3⟩ := fewest_list h he
  have hm : mendsAllV (plusT w t) (keepV w).1 = true := by
    unfold mendsAllV at q2 ⊢
    rw [List.all_eq_true] at q2 ⊢
    intro m hm
    have := q2 m hm
    rw [decide_eq_true_eq] at this ⊢
    rw [← trial_mends hk2 (isListV_mem q1) (by rw [this]; decide)]
    exact this
  obtain ⟨r1, r2, _⟩ := fewest_min hs hk2 (list := (keepV w).1) q1 hm
  exact ⟨r1, by rw [q3]; exact r2⟩
theorem ready_small {w : Wsh} (h : readyV w = true) : knownV w true = 0 := (ready_of h).2
theorem lawTrial (x : Wsh × (Trl × List Int) × Int × Int × Int) (h : smallW x.1) (hl : x.2.1.2.length < 2 ^ 63) :
    S_law07_PartsTrial fcReady.sh fcWorks.sh fcPFewest.sh shCopyIO fcLength.sh fcFits.sh fcMends.sh fcIsAsk.sh x = M.pure true := by
  obtain ⟨w, ⟨t, list⟩, i, m, k⟩ := x
  change smallW w at h
  change list.length < 2 ^ 63 at hl
  unfold S_law07_PartsTrial
  simp only [FC.sh, M.bind_det, M.req_true h, M.req_True, ofNat_def, M.gdo_det]
  rw [M.req_true (by exact fun _ => h)]
  by_cases hc : (!readyV w || !(if (!!readyV w) = true then isSpareV w i && isSlotOfV w m k else false) || decide ((w.2.2.2.length : Int) > 9) || decide ((list.length : Int) > 20)) = true
  · simp only [hc, if_true]
  · rw [if_neg hc]
    have hr : readyV w = true := by
      cases hrr : readyV w with
      | true => rfl
      | false => rw [hrr] at hc; simp at hc
    have hi : isSpareV w i = true ∧ isSlotOfV w m k = true := by
      rw [hr] at hc
      simp only [Bool.not_true, Bool.not_false, Bool.false_or, if_true, Bool.or_eq_true, not_or] at hc
      have := hc.1.1
      simpa using this
    have hls : list.length ≤ 20 := by
      simp only [Bool.or_eq_true, not_or, decide_eq_true_eq] at hc
      omega
    obtain ⟨hcp, hk⟩ := ready_of hr
    have hct := hcp.2.2.1
    have hll : lenLe (w.2.2.2.length + (0 + 1)) := by unfold lenLe; omega
    have hsm : smallW (plusT w t) := ⟨h.1, h.2.1, by have e : (plusT w t).2.2.2.length = w.2.2.2.length + 1 := by simp [plusT]
                                                     omega, h.2.2.2⟩
    have e1 : (w.1, w.2.1, w.2.2.1, w.2.2.2 ++ [t]) = plusT w t := rfl
    have hq : smallW w ∧ list.length < 2 ^ 63 := ⟨h, hl⟩
    have hq2 : smallW (plusT w t) ∧ list.length < 2 ^ 63 := ⟨hsm, hl⟩
    unfold shCopyIO
    simp only [M.bind_det]
    rw [M.req_true (by exact hcp)]
    simp only [add_defN, M.req_true hll, e1, M.req_true hsm]
    by_cases hr2 : readyV (plusT w t) = true
    · have hk2 := (ready_of hr2).2
      simp only [hr2, Bool.not_true, Bool.false_eq_true, if_false, M.req_true h, M.req_true hsm, M.req_true hq, M.req_true hq2]
      have hi2 : isSpareV (plusT w t) i = true ∧ isSlotOfV (plusT w t) m k = true := hi
      have a1 : lengthV w i = (((lens w i).getD 0 0, (lens w i).getD ((lens w i).length - 1) 0), 0) := by
        unfold lengthV; rw [hi.1, hk]; simp
      have a2 : lengthV (plusT w t) i = (((lens (plusT w t) i).getD 0 0, (lens (plusT w t) i).getD ((lens (plusT w t) i).length - 1) 0), 0) := by
        unfold lengthV; rw [hi2.1, hk2]; simp
      have b1 : fitsR w i m k = (fitsV w i m k, 0) := by unfold fitsR; rw [hi.1, hi.2, Bool.and_self, hk]; simp
      have b2 : fitsR (plusT w t) i m k = (fitsV (plusT w t) i m k, 0) := by unfold fitsR; rw [hi2.1, hi2.2, Bool.and_self, hk2]; simp
      obtain ⟨l1, l2⟩ := trial_length hk2 hi.1
      have c1 : ∀ n, fitsV w i m k = n → (decide (¬ n = 3) && decide (¬ n = fitsV (plusT w t) i m k)) = false := fun n e => by
        subst e
        by_cases h3 : fitsV w i m k = 3
        · simp [h3]
        · simp [trial_fits hk2 hi.1 h3]
      have c2 : (mendsR w list m).2 = (mendsR (plusT w t) list m).2 ∧ (decide (¬ (mendsR w list m).1 = 3) && decide (¬ (mendsR w list m).1 = (mendsR (plusT w t) list m).1)) = false := by
        have hb : (isListV w list && isMakeV w m) = (isListV (plusT w t) list && isMakeV (plusT w t) m) := rfl
        unfold mendsR
        rw [knownV_true hk, knownV_true hk2, ← hb]
        by_cases hbb : (isListV w list && isMakeV w m) = true
        · rw [hbb]
          simp only [if_true, ne_eq, not_true, if_false, true_and]
          have hlv := isListV_mem (Bool.and_eq_true _ _ ▸ hbb : _ ∧ _).1
          by_cases h3 : mendV w list m = 3
          · simp [h3]
          · simp [trial_mends hk2 hlv h3]
        · simp [hbb]
      have d1 : (decide (¬ (fewestR w).2 = 0) && decide (¬ (fewestR w).2 = 3)) = false := by
        rcases fewestR_known hk with he | he
        · simp [he]
        · rw [he]; rfl
      have d2 : (decide (¬ (fewestR (plusT w t)).2 = 0) && decide (¬ (fewestR (plusT w t)).2 = 3)) = false := by
        rcases fewestR_known hk2 with he | he
        · simp [he]
        · rw [he]; rfl
      have d3 : (decide (¬ (fewestR w).2 = 0) || decide ((fewestR (plusT w t)).2 = 0) && decide ((fewestR (plusT w t)).1 ≤ (fewestR w).1)) = true := by
        by_cases he : (fewestR w).2 = 0
        · obtain ⟨p1, p2⟩ := trial_few h hsm hk2 he
          simp [he, p1, p2]
        · simp [he]
      have l1' : ¬ (lens (plusT w t) i).getD 0 0 < (lens w i).getD 0 0 := by omega
      have l2' : ¬ (lens (plusT w t) i).getD ((lens (plusT w t) i).length - 1) 0 > (lens w i).getD ((lens w i).length - 1) 0 := by omega
      simp only [a1, a2, b1, b2, c2.1, c2.2, c1 _ rfl, ne_eq, not_true, decide_false, d1, d2, d3, l1', l2', Bool.or_self, Bool.false_eq_true, if_false, if_true, true_implies, M.req_True, Bool.and_self]
    · simp only [hr2, Bool.not_false, if_true]
end Go.Fer
namespace Go.Fer
open M (Step)
set_option linter.unusedVariables false
noncomputable def S_law07_PartsTrueJ (c_law07_ready : List (Int × Int × Int × Int) × List (List (Int × List Int × Int × Int)) × Int × List (Int × Int × Int × Int) → M Bool) (c_law07_works : Unit → M Bool) (c_ref07_IsSpare : Wsh × Int → M Bool) (c_parts_Length : Wsh × Int → M ((Int × Int) × Int)) (c_parts_Fits : Wsh × Int × Int × Int → M (Int × Int)) (c_parts_Mends : Wsh × List Int × Int → M (Int × Int)) (c_ref07_IsTruth : Wsh × List Int → M Bool) (c_law07_isAsk : Wsh × Int × Int × Int → M Bool) (c_ref07_CanBe : Wsh × Int × Int → M Bool) (c_law07_agrees : Int × Bool → M Bool) (c_ref07_FitsAt : Wsh × Int × Int × Int × Int → M Bool) (x : Wsh × (List Int × List Int) × Int × Int × Int) : M Bool :=
  M.bind (c_law07_ready x.1) fun y => M.bind (gdo (!!y) (c_ref07_IsTruth (x.1, x.2.1.1)) false) fun y_1 => M.bind (gdo (!(!y || !y_1)) (c_law07_isAsk
  (x.1, x.2.2)) false) fun y_2 => if (!y || !y_1 || !y_2 || decide (Int.ofNat (List.length x.2.1.2) > 20)) = true then M.bind (c_law07_works ()) fun y
  => M.pure y else M.bind (c_parts_Length (x.1, x.2.2.1)) fun y => M.bind (M.bind (c_parts_Fits (x.1, x.2.2)) fun y_3 => M.pure (Step.next (y.2, y_3.1,
  y_3.2, x.1, x.2.1, x.2.2, y.1, ()))) (Step.go fun (σ : Int × Int × Int × Wsh × (List Int × List Int) × (Int × Int × Int) × (Int × Int) × Unit) =>
  M.bind (M.req ((!decide (σ.1 ≠ 0)) = true → ((!decide (σ.1 ≠ 0)) = true ∧ True) ∧ True ∧ True) (M.req (True ∧ (decide (σ.1 ≠ 0) = false → (!decide
  (σ.1 ≠ 0)) = true)) (M.req ((!(decide (σ.1 ≠ 0) || decide (σ.2.2.1 ≠ 0))) = true → (!(decide (σ.1 ≠ 0) || decide (σ.2.2.1 ≠ 0))) = true ∧ True ∧
  True) (M.req ((!(decide (σ.1 ≠ 0) || decide (σ.2.2.1 ≠ 0))) = true → (!(decide (σ.1 ≠ 0) || decide (σ.2.2.1 ≠ 0))) = true ∧ True ∧ True) (M.req
  ((!(decide (σ.1 ≠ 0) || decide (σ.2.2.1 ≠ 0))) = true → ((!(decide (σ.1 ≠ 0) || decide (σ.2.2.1 ≠ 0))) = true ∧ (!(decide (σ.1 ≠ 0) || decide
  (σ.2.2.1 ≠ 0))) = true) ∧ (0 ≤ σ.2.2.2.2.2.1.1 ∧ σ.2.2.2.2.2.1.1 < Int.ofNat (List.length σ.2.2.2.2.1.1)) ∧ True) (M.req ((!(decide (σ.1 ≠ 0) ||
  decide (σ.2.2.1 ≠ 0))) = true → (!(decide (σ.1 ≠ 0) || decide (σ.2.2.1 ≠ 0))) = true ∧ True ∧ True) (M.req ((!(decide (σ.1 ≠ 0) || decide (σ.2.2.1 ≠
  0))) = true → (!(decide (σ.1 ≠ 0) || decide (σ.2.2.1 ≠ 0))) = true ∧ True ∧ True) (M.req ((!(decide (σ.1 ≠ 0) || decide (σ.2.2.1 ≠ 0))) = true →
  ((!(decide (σ.1 ≠ 0) || decide (σ.2.2.1 ≠ 0))) = true ∧ (!(decide (σ.1 ≠ 0) || decide (σ.2.2.1 ≠ 0))) = true) ∧ True ∧ True) (M.req (True ∧ ((decide
  (σ.1 ≠ 0) || decide (σ.2.2.1 ≠ 0)) = false → (!(decide (σ.1 ≠ 0) || decide (σ.2.2.1 ≠ 0))) = true)) (M.req ((!(decide (σ.1 ≠ 0) || decide (σ.2.2.1 ≠
  0) || decide (List.getD σ.2.2.2.2.1.1 (Int.toNat σ.2.2.2.2.2.1.1) 0 < σ.2.2.2.2.2.2.1.1))) = true → (!(decide (σ.1 ≠ 0) || decide (σ.2.2.1 ≠ 0) ||
  decide (List.getD σ.2.2.2.2.1.1 (Int.toNat σ.2.2.2.2.2.1.1) 0 < σ.2.2.2.2.2.2.1.1))) = true ∧ True ∧ True) (M.req ((!(decide (σ.1 ≠ 0) || decide
  (σ.2.2.1 ≠ 0) || decide (List.getD σ.2.2.2.2.1.1 (Int.toNat σ.2.2.2.2.2.1.1) 0 < σ.2.2.2.2.2.2.1.1))) = true → (!(decide (σ.1 ≠ 0) || decide (σ.2.2.1
  ≠ 0) || decide (List.getD σ.2.2.2.2.1.1 (Int.toNat σ.2.2.2.2.2.1.1) 0 < σ.2.2.2.2.2.2.1.1))) = true ∧ True ∧ True) (M.req ((!(decide (σ.1 ≠ 0) ||
  decide (σ.2.2.1 ≠ 0) || decide (List.getD σ.2.2.2.2.1.1 (Int.toNat σ.2.2.2.2.2.1.1) 0 < σ.2.2.2.2.2.2.1.1))) = true → ((!(decide (σ.1 ≠ 0) || decide
  (σ.2.2.1 ≠ 0) || decide (List.getD σ.2.2.2.2.1.1 (Int.toNat σ.2.2.2.2.2.1.1) 0 < σ.2.2.2.2.2.2.1.1))) = true ∧ (!(decide (σ.1 ≠ 0) || decide (σ.2.2.1
  ≠ 0) || decide (List.getD σ.2.2.2.2.1.1 (Int.toNat σ.2.2.2.2.2.1.1) 0 < σ.2.2.2.2.2.2.1.1))) = true) ∧ (0 ≤ σ.2.2.2.2.2.1.1 ∧ σ.2.2.2.2.2.1.1 <
  Int.ofNat (List.length σ.2.2.2.2.1.1)) ∧ True) (M.req ((!(decide (σ.1 ≠ 0) || decide (σ.2.2.1 ≠ 0) || decide (List.getD σ.2.2.2.2.1.1 (Int.toNat
  σ.2.2.2.2.2.1.1) 0 < σ.2.2.2.2.2.2.1.1))) = true → (!(decide (σ.1 ≠ 0) || decide (σ.2.2.1 ≠ 0) || decide (List.getD σ.2.2.2.2.1.1 (Int.toNat
  σ.2.2.2.2.2.1.1) 0 < σ.2.2.2.2.2.2.1.1))) = true ∧ True ∧ True) (M.req ((!(decide (σ.1 ≠ 0) || decide (σ.2.2.1 ≠ 0) || decide (List.getD
  σ.2.2.2.2.1.1 (Int.toNat σ.2.2.2.2.2.1.1) 0 < σ.2.2.2.2.2.2.1.1))) = true → (!(decide (σ.1 ≠ 0) || decide (σ.2.2.1 ≠ 0) || decide (List.getD
  σ.2.2.2.2.1.1 (Int.toNat σ.2.2.2.2.2.1.1) 0 < σ.2.2.2.2.2.2.1.1))) = true ∧ True ∧ True) (M.req ((!(decide (σ.1 ≠ 0) || decide (σ.2.2.1 ≠ 0) ||
  decide (List.getD σ.2.2.2.2.1.1 (Int.toNat σ.2.2.2.2.2.1.1) 0 < σ.2.2.2.2.2.2.1.1))) = true → ((!(decide (σ.1 ≠ 0) || decide (σ.2.2.1 ≠ 0) || decide
  (List.getD σ.2.2.2.2.1.1 (Int.toNat σ.2.2.2.2.2.1.1) 0 < σ.2.2.2.2.2.2.1.1))) = true ∧ (!(decide (σ.1 ≠ 0) || decide (σ.2.2.1 ≠ 0) || decide
  (List.getD σ.2.2.2.2.1.1 (Int.toNat σ.2.2.2.2.2.1.1) 0 < σ.2.2.2.2.2.2.1.1))) = true) ∧ True ∧ True) (M.req (True ∧ ((decide (σ.1 ≠ 0) || decide
  (σ.2.2.1 ≠ 0) || decide (List.getD σ.2.2.2.2.1.1 (Int.toNat σ.2.2.2.2.2.1.1) 0 < σ.2.2.2.2.2.2.1.1)) = false → (!(decide (σ.1 ≠ 0) || decide (σ.2.2.1
  ≠ 0) || decide (List.getD σ.2.2.2.2.1.1 (Int.toNat σ.2.2.2.2.2.1.1) 0 < σ.2.2.2.2.2.2.1.1))) = true)) (M.req ((!(decide (σ.1 ≠ 0) || decide (σ.2.2.1
  ≠ 0) || decide (List.getD σ.2.2.2.2.1.1 (Int.toNat σ.2.2.2.2.2.1.1) 0 < σ.2.2.2.2.2.2.1.1) || decide (List.getD σ.2.2.2.2.1.1 (Int.toNat
  σ.2.2.2.2.2.1.1) 0 > σ.2.2.2.2.2.2.1.2))) = true → (!(decide (σ.1 ≠ 0) || decide (σ.2.2.1 ≠ 0) || decide (List.getD σ.2.2.2.2.1.1 (Int.toNat
  σ.2.2.2.2.2.1.1) 0 < σ.2.2.2.2.2.2.1.1) || decide (List.getD σ.2.2.2.2.1.1 (Int.toNat σ.2.2.2.2.2.1.1) 0 > σ.2.2.2.2.2.2.1.2))) = true ∧ True ∧ True)
  (M.req ((!(decide (σ.1 ≠ 0) || decide (σ.2.2.1 ≠ 0) || decide (List.getD σ.2.2.2.2.1.1 (Int.toNat σ.2.2.2.2.2.1.1) 0 < σ.2.2.2.2.2.2.1.1) || decide
  (List.getD σ.2.2.2.2.1.1 (Int.toNat σ.2.2.2.2.2.1.1) 0 > σ.2.2.2.2.2.2.1.2))) = true → (!(decide (σ.1 ≠ 0) || decide (σ.2.2.1 ≠ 0) || decide
  (List.getD σ.2.2.2.2.1.1 (Int.toNat σ.2.2.2.2.2.1.1) 0 < σ.2.2.2.2.2.2.1.1) || decide (List.getD σ.2.2.2.2.1.1 (Int.toNat σ.2.2.2.2.2.1.1) 0 >
  σ.2.2.2.2.2.2.1.2))) = true ∧ True ∧ True) (M.req ((!(decide (σ.1 ≠ 0) || decide (σ.2.2.1 ≠ 0) || decide (List.getD σ.2.2.2.2.1.1 (Int.toNat
  σ.2.2.2.2.2.1.1) 0 < σ.2.2.2.2.2.2.1.1) || decide (List.getD σ.2.2.2.2.1.1 (Int.toNat σ.2.2.2.2.2.1.1) 0 > σ.2.2.2.2.2.2.1.2))) = true → ((!(decide
  (σ.1 ≠ 0) || decide (σ.2.2.1 ≠ 0) || decide (List.getD σ.2.2.2.2.1.1 (Int.toNat σ.2.2.2.2.2.1.1) 0 < σ.2.2.2.2.2.2.1.1) || decide (List.getD
  σ.2.2.2.2.1.1 (Int.toNat σ.2.2.2.2.2.1.1) 0 > σ.2.2.2.2.2.2.1.2))) = true ∧ (!(decide (σ.1 ≠ 0) || decide (σ.2.2.1 ≠ 0) || decide (List.getD
  σ.2.2.2.2.1.1 (Int.toNat σ.2.2.2.2.2.1.1) 0 < σ.2.2.2.2.2.2.1.1) || decide (List.getD σ.2.2.2.2.1.1 (Int.toNat σ.2.2.2.2.2.1.1) 0 >
  σ.2.2.2.2.2.2.1.2))) = true ∧ (!(decide (σ.1 ≠ 0) || decide (σ.2.2.1 ≠ 0) || decide (List.getD σ.2.2.2.2.1.1 (Int.toNat σ.2.2.2.2.2.1.1) 0 <
  σ.2.2.2.2.2.2.1.1) || decide (List.getD σ.2.2.2.2.1.1 (Int.toNat σ.2.2.2.2.2.1.1) 0 > σ.2.2.2.2.2.2.1.2))) = true ∧ True) ∧ (c_ref07_CanBe
  (σ.2.2.2.1, σ.2.2.2.2.2.1.1, σ.2.2.2.2.2.2.1.1)).safe ∧ True) (M.req ((!(decide (σ.1 ≠ 0) || decide (σ.2.2.1 ≠ 0) || decide (List.getD σ.2.2.2.2.1.1
  (Int.toNat σ.2.2.2.2.2.1.1) 0 < σ.2.2.2.2.2.2.1.1) || decide (List.getD σ.2.2.2.2.1.1 (Int.toNat σ.2.2.2.2.2.1.1) 0 > σ.2.2.2.2.2.2.1.2))) = true →
  (!(decide (σ.1 ≠ 0) || decide (σ.2.2.1 ≠ 0) || decide (List.getD σ.2.2.2.2.1.1 (Int.toNat σ.2.2.2.2.2.1.1) 0 < σ.2.2.2.2.2.2.1.1) || decide
  (List.getD σ.2.2.2.2.1.1 (Int.toNat σ.2.2.2.2.2.1.1) 0 > σ.2.2.2.2.2.2.1.2))) = true ∧ True ∧ True) (M.req (True ∧ ((decide (σ.1 ≠ 0) || decide
  (σ.2.2.1 ≠ 0) || decide (List.getD σ.2.2.2.2.1.1 (Int.toNat σ.2.2.2.2.2.1.1) 0 < σ.2.2.2.2.2.2.1.1) || decide (List.getD σ.2.2.2.2.1.1 (Int.toNat
  σ.2.2.2.2.2.1.1) 0 > σ.2.2.2.2.2.2.1.2)) = false → (!(decide (σ.1 ≠ 0) || decide (σ.2.2.1 ≠ 0) || decide (List.getD σ.2.2.2.2.1.1 (Int.toNat
  σ.2.2.2.2.2.1.1) 0 < σ.2.2.2.2.2.2.1.1) || decide (List.getD σ.2.2.2.2.1.1 (Int.toNat σ.2.2.2.2.2.1.1) 0 > σ.2.2.2.2.2.2.1.2))) = true)) (M.req
  ((!(decide (σ.1 ≠ 0) || decide (σ.2.2.1 ≠ 0) || decide (List.getD σ.2.2.2.2.1.1 (Int.toNat σ.2.2.2.2.2.1.1) 0 < σ.2.2.2.2.2.2.1.1) || decide
  (List.getD σ.2.2.2.2.1.1 (Int.toNat σ.2.2.2.2.2.1.1) 0 > σ.2.2.2.2.2.2.1.2) || !M.val (c_ref07_CanBe (σ.2.2.2.1, σ.2.2.2.2.2.1.1, σ.2.2.2.2.2.2.1.1))
  false)) = true → (!(decide (σ.1 ≠ 0) || decide (σ.2.2.1 ≠ 0) || decide (List.getD σ.2.2.2.2.1.1 (Int.toNat σ.2.2.2.2.2.1.1) 0 < σ.2.2.2.2.2.2.1.1) ||
  decide (List.getD σ.2.2.2.2.1.1 (Int.toNat σ.2.2.2.2.2.1.1) 0 > σ.2.2.2.2.2.2.1.2) || !M.val (c_ref07_CanBe (σ.2.2.2.1, σ.2.2.2.2.2.1.1,
  σ.2.2.2.2.2.2.1.1)) false)) = true ∧ True ∧ True) (M.req ((!(decide (σ.1 ≠ 0) || decide (σ.2.2.1 ≠ 0) || decide (List.getD σ.2.2.2.2.1.1 (Int.toNat
  σ.2.2.2.2.2.1.1) 0 < σ.2.2.2.2.2.2.1.1) || decide (List.getD σ.2.2.2.2.1.1 (Int.toNat σ.2.2.2.2.2.1.1) 0 > σ.2.2.2.2.2.2.1.2) || !M.val
  (c_ref07_CanBe (σ.2.2.2.1, σ.2.2.2.2.2.1.1, σ.2.2.2.2.2.2.1.1)) false)) = true → (!(decide (σ.1 ≠ 0) || decide (σ.2.2.1 ≠ 0) || decide (List.getD
  σ.2.2.2.2.1.1 (Int.toNat σ.2.2.2.2.2.1.1) 0 < σ.2.2.2.2.2.2.1.1) || decide (List.getD σ.2.2.2.2.1.1 (Int.toNat σ.2.2.2.2.2.1.1) 0 >
  σ.2.2.2.2.2.2.1.2) || !M.val (c_ref07_CanBe (σ.2.2.2.1, σ.2.2.2.2.2.1.1, σ.2.2.2.2.2.2.1.1)) false)) = true ∧ True ∧ True) (M.req ((!(decide (σ.1 ≠
  0) || decide (σ.2.2.1 ≠ 0) || decide (List.getD σ.2.2.2.2.1.1 (Int.toNat σ.2.2.2.2.2.1.1) 0 < σ.2.2.2.2.2.2.1.1) || decide (List.getD σ.2.2.2.2.1.1
  (Int.toNat σ.2.2.2.2.2.1.1) 0 > σ.2.2.2.2.2.2.1.2) || !M.val (c_ref07_CanBe (σ.2.2.2.1, σ.2.2.2.2.2.1.1, σ.2.2.2.2.2.2.1.1)) false)) = true →
  ((!(decide (σ.1 ≠ 0) || decide (σ.2.2.1 ≠ 0) || decide (List.getD σ.2.2.2.2.1.1 (Int.toNat σ.2.2.2.2.2.1.1) 0 < σ.2.2.2.2.2.2.1.1) || decide
  (List.getD σ.2.2.2.2.1.1 (Int.toNat σ.2.2.2.2.2.1.1) 0 > σ.2.2.2.2.2.2.1.2) || !M.val (c_ref07_CanBe (σ.2.2.2.1, σ.2.2.2.2.2.1.1, σ.2.2.2.2.2.2.1.1))
  false)) = true ∧ (!(decide (σ.1 ≠ 0) || decide (σ.2.2.1 ≠ 0) || decide (List.getD σ.2.2.2.2.1.1 (Int.toNat σ.2.2.2.2.2.1.1) 0 < σ.2.2.2.2.2.2.1.1) ||
  decide (List.getD σ.2.2.2.2.1.1 (Int.toNat σ.2.2.2.2.2.1.1) 0 > σ.2.2.2.2.2.2.1.2) || !M.val (c_ref07_CanBe (σ.2.2.2.1, σ.2.2.2.2.2.1.1,
  σ.2.2.2.2.2.2.1.1)) false)) = true ∧ (!(decide (σ.1 ≠ 0) || decide (σ.2.2.1 ≠ 0) || decide (List.getD σ.2.2.2.2.1.1 (Int.toNat σ.2.2.2.2.2.1.1) 0 <
  σ.2.2.2.2.2.2.1.1) || decide (List.getD σ.2.2.2.2.1.1 (Int.toNat σ.2.2.2.2.2.1.1) 0 > σ.2.2.2.2.2.2.1.2) || !M.val (c_ref07_CanBe (σ.2.2.2.1,
  σ.2.2.2.2.2.1.1, σ.2.2.2.2.2.2.1.1)) false)) = true ∧ True) ∧ (c_ref07_CanBe (σ.2.2.2.1, σ.2.2.2.2.2.1.1, σ.2.2.2.2.2.2.1.2)).safe ∧ True) (M.req
  ((!(decide (σ.1 ≠ 0) || decide (σ.2.2.1 ≠ 0) || decide (List.getD σ.2.2.2.2.1.1 (Int.toNat σ.2.2.2.2.2.1.1) 0 < σ.2.2.2.2.2.2.1.1) || decide
  (List.getD σ.2.2.2.2.1.1 (Int.toNat σ.2.2.2.2.2.1.1) 0 > σ.2.2.2.2.2.2.1.2) || !M.val (c_ref07_CanBe (σ.2.2.2.1, σ.2.2.2.2.2.1.1, σ.2.2.2.2.2.2.1.1))
  false)) = true → (!(decide (σ.1 ≠ 0) || decide (σ.2.2.1 ≠ 0) || decide (List.getD σ.2.2.2.2.1.1 (Int.toNat σ.2.2.2.2.2.1.1) 0 < σ.2.2.2.2.2.2.1.1) ||
  decide (List.getD σ.2.2.2.2.1.1 (Int.toNat σ.2.2.2.2.2.1.1) 0 > σ.2.2.2.2.2.2.1.2) || !M.val (c_ref07_CanBe (σ.2.2.2.1, σ.2.2.2.2.2.1.1,
  σ.2.2.2.2.2.2.1.1)) false)) = true ∧ True ∧ True) (M.req (True ∧ ((decide (σ.1 ≠ 0) || decide (σ.2.2.1 ≠ 0) || decide (List.getD σ.2.2.2.2.1.1
  (Int.toNat σ.2.2.2.2.2.1.1) 0 < σ.2.2.2.2.2.2.1.1) || decide (List.getD σ.2.2.2.2.1.1 (Int.toNat σ.2.2.2.2.2.1.1) 0 > σ.2.2.2.2.2.2.1.2) || !M.val
  (c_ref07_CanBe (σ.2.2.2.1, σ.2.2.2.2.2.1.1, σ.2.2.2.2.2.2.1.1)) false) = false → (!(decide (σ.1 ≠ 0) || decide (σ.2.2.1 ≠ 0) || decide (List.getD
  σ.2.2.2.2.1.1 (Int.toNat σ.2.2.2.2.2.1.1) 0 < σ.2.2.2.2.2.2.1.1) || decide (List.getD σ.2.2.2.2.1.1 (Int.toNat σ.2.2.2.2.2.1.1) 0 >
  σ.2.2.2.2.2.2.1.2) || !M.val (c_ref07_CanBe (σ.2.2.2.1, σ.2.2.2.2.2.1.1, σ.2.2.2.2.2.2.1.1)) false)) = true)) (if (decide (σ.1 ≠ 0) || decide
  (σ.2.2.1 ≠ 0) || decide (List.getD σ.2.2.2.2.1.1 (Int.toNat σ.2.2.2.2.2.1.1) 0 < σ.2.2.2.2.2.2.1.1) || decide (List.getD σ.2.2.2.2.1.1 (Int.toNat
  σ.2.2.2.2.2.1.1) 0 > σ.2.2.2.2.2.2.1.2) || !M.val (c_ref07_CanBe (σ.2.2.2.1, σ.2.2.2.2.2.1.1, σ.2.2.2.2.2.2.1.1)) false || !M.val (c_ref07_CanBe
  (σ.2.2.2.1, σ.2.2.2.2.2.1.1, σ.2.2.2.2.2.2.1.2)) false) = true then M.bind (M.pure false) fun r => M.pure (Step.done r) else M.pure (Step.next
  (σ.2.1, σ.2.2.2.1, σ.2.2.2.2.1, σ.2.2.2.2.2.1, ()))))))))))))))))))))))))))))) (Step.go fun (σ : Int × Wsh × (List Int × List Int) × (Int × Int ×
  Int) × Unit) => M.req (0 ≤ σ.2.2.2.1.1 ∧ σ.2.2.2.1.1 < Int.ofNat (List.length σ.2.2.1.1)) (M.req (c_ref07_FitsAt (σ.2.1, σ.2.2.2.1.1, List.getD
  σ.2.2.1.1 (Int.toNat σ.2.2.2.1.1) 0, σ.2.2.2.1.2)).safe (M.req (c_law07_agrees (σ.1, M.val (c_ref07_FitsAt (σ.2.1, σ.2.2.2.1.1, List.getD σ.2.2.1.1
  (Int.toNat σ.2.2.2.1.1) 0, σ.2.2.2.1.2)) false)).safe (if (!M.val (c_law07_agrees (σ.1, M.val (c_ref07_FitsAt (σ.2.1, σ.2.2.2.1.1, List.getD
  σ.2.2.1.1 (Int.toNat σ.2.2.2.1.1) 0, σ.2.2.2.1.2)) false)) false) = true then M.pure false else M.bind (c_parts_Mends (σ.2.1, σ.2.2.1.2,
  σ.2.2.2.1.2.1)) fun y => if decide (y.2 ≠ 0) = true then M.bind (gdo (decide (y.2 = 1)) (c_law07_works ()) false) fun y_3 => M.pure (decide (y.2 = 1)
  && y_3) else M.bind (M.loop (fun (σ : Int × Bool × Int × Wsh × (List Int × List Int) × (Int × Int × Int) × Unit) => M.req (0 ≤ σ.2.2.2.2.2.1.2.1 ∧
  σ.2.2.2.2.2.1.2.1 < Int.ofNat (List.length σ.2.2.2.1.2.1)) (if decide (σ.2.2.1 < Int.ofNat (List.length (List.getD σ.2.2.2.1.2.1 (Int.toNat
  σ.2.2.2.2.2.1.2.1) []))) = true then M.bind (M.bind (M.loop (fun (σ : Int × Bool × Int × Bool × Int × Wsh × (List Int × List Int) × (Int × Int × Int)
  × Unit) => if decide (σ.2.2.2.2.1 < Int.ofNat (List.length σ.2.2.2.2.2.2.1.2)) = true then M.req (0 ≤ σ.2.2.2.2.1 ∧ σ.2.2.2.2.1 < Int.ofNat
  (List.length σ.2.2.2.2.2.2.1.2)) (M.req (c_ref07_IsSpare (σ.2.2.2.2.2.1, List.getD σ.2.2.2.2.2.2.1.2 (Int.toNat σ.2.2.2.2.1) 0)).safe (if (!M.val
  (c_ref07_IsSpare (σ.2.2.2.2.2.1, List.getD σ.2.2.2.2.2.2.1.2 (Int.toNat σ.2.2.2.2.1) 0)) false) = true then M.bind (M.bind (M.bind (M.bind (M.bind
  (M.pure false) fun r => M.pure (Step.done r)) fun r => M.pure (Step.done r)) fun r => M.pure (Step.done r)) fun r => M.pure (Step.done r)) fun r =>
  M.pure (Step.done r) else M.req ((!σ.2.2.2.1) = true → (!σ.2.2.2.1) = true ∧ True ∧ True) (M.req ((!σ.2.2.2.1) = true → ((!σ.2.2.2.1) = true ∧
  (!σ.2.2.2.1) = true) ∧ (0 ≤ σ.2.2.2.2.1 ∧ σ.2.2.2.2.1 < Int.ofNat (List.length σ.2.2.2.2.2.2.1.2)) ∧ True) (M.req ((!σ.2.2.2.1) = true → (!σ.2.2.2.1)
  = true ∧ True ∧ True) (M.req ((!σ.2.2.2.1) = true → (!σ.2.2.2.1) = true ∧ True ∧ True) (M.req ((!σ.2.2.2.1) = true → (!σ.2.2.2.1) = true ∧ True ∧
  True) (M.req ((!σ.2.2.2.1) = true → ((!σ.2.2.2.1) = true ∧ (!σ.2.2.2.1) = true) ∧ (0 ≤ σ.2.2.2.2.1 ∧ σ.2.2.2.2.1 < Int.ofNat (List.length
  σ.2.2.2.2.2.2.1.2)) ∧ True) (M.req ((!σ.2.2.2.1) = true → (!σ.2.2.2.1) = true ∧ True ∧ True) (M.req ((!σ.2.2.2.1) = true → ((!σ.2.2.2.1) = true ∧
  (!σ.2.2.2.1) = true) ∧ (0 ≤ List.getD σ.2.2.2.2.2.2.1.2 (Int.toNat σ.2.2.2.2.1) 0 ∧ List.getD σ.2.2.2.2.2.2.1.2 (Int.toNat σ.2.2.2.2.1) 0 < Int.ofNat
  (List.length σ.2.2.2.2.2.2.1.1)) ∧ True) (M.req ((!σ.2.2.2.1) = true → (!σ.2.2.2.1) = true ∧ True ∧ True) (M.req ((!σ.2.2.2.1) = true → (!σ.2.2.2.1)
  = true ∧ True ∧ True) (M.req ((!σ.2.2.2.1) = true → ((!σ.2.2.2.1) = true ∧ (!σ.2.2.2.1) = true ∧ (!σ.2.2.2.1) = true ∧ (!σ.2.2.2.1) = true ∧
  (!σ.2.2.2.1) = true ∧ True) ∧ (c_ref07_FitsAt (σ.2.2.2.2.2.1, List.getD σ.2.2.2.2.2.2.1.2 (Int.toNat σ.2.2.2.2.1) 0, List.getD σ.2.2.2.2.2.2.1.1
  (Int.toNat (List.getD σ.2.2.2.2.2.2.1.2 (Int.toNat σ.2.2.2.2.1) 0)) 0, σ.2.2.2.2.2.2.2.1.2.1, σ.2.2.1)).safe ∧ True) (M.req (True ∧ (σ.2.2.2.1 =
  false → (!σ.2.2.2.1) = true)) (M.pure (Step.next (σ.1, σ.2.1, σ.2.2.1, σ.2.2.2.1 || M.val (c_ref07_FitsAt (σ.2.2.2.2.2.1, List.getD σ.2.2.2.2.2.2.1.2
  (Int.toNat σ.2.2.2.2.1) 0, List.getD σ.2.2.2.2.2.2.1.1 (Int.toNat (List.getD σ.2.2.2.2.2.2.1.2 (Int.toNat σ.2.2.2.2.1) 0)) 0, σ.2.2.2.2.2.2.2.1.2.1,
  σ.2.2.1)) false, IntKind.wrap .i64 (Add.add σ.2.2.2.2.1 1), σ.2.2.2.2.2.1, σ.2.2.2.2.2.2.1, σ.2.2.2.2.2.2.2.1, ())))))))))))))))) else M.bind (M.pure
  (Step.next (σ.1, σ.2.1, σ.2.2.1, σ.2.2.2.1, σ.2.2.2.2.2.1, σ.2.2.2.2.2.2.1, σ.2.2.2.2.2.2.2.1, ()))) fun r => M.pure (Step.done r)) (σ.1, σ.2.1,
  σ.2.2.1, false, 0, σ.2.2.2.1, σ.2.2.2.2.1, σ.2.2.2.2.2.1, ())) (Step.go fun (σ : Int × Bool × Int × Bool × Wsh × (List Int × List Int) × (Int × Int ×
  Int) × Unit) => M.pure (Step.next (σ.1, σ.2.1 && σ.2.2.2.1, σ.2.2.1, σ.2.2.2.2.1, σ.2.2.2.2.2.1, σ.2.2.2.2.2.2.1, ())))) (Step.go fun (σ : Int × Bool
  × Int × Wsh × (List Int × List Int) × (Int × Int × Int) × Unit) => M.pure (Step.next (σ.1, σ.2.1, IntKind.wrap .i64 (Add.add σ.2.2.1 1), σ.2.2.2.1,
  σ.2.2.2.2.1, σ.2.2.2.2.2.1, ()))) else M.bind (M.pure (Step.next (σ.1, σ.2.1, ()))) fun r => M.pure (Step.done r))) (y.1, true, 0, σ.2.1, σ.2.2.1,
  σ.2.2.2.1, ())) (Step.go fun (σ : Int × Bool × Unit) => M.bind (c_law07_agrees (σ.1, σ.2.1)) fun y => M.bind (gdo y (c_law07_works ()) false) fun y_3
  => M.pure (y && y_3)))))))
end Go.Fer
namespace Go.Fer
open M (Step)
set_option linter.unusedVariables false
set_option linter.unusedSimpArgs false
def isTruthV (w : Wsh) (l : List Int) : Bool := ((List.range (min l.length w.1.length)).all fun (i : Nat) => canBe w (i : Int) (l.getD i 0)) && decide (l.length = w.1.length)
abbrev fcIsTruth : FC := ⟨.prod tW tInts, tB, fun x => goodW x.1 ∧ x.2.length < 2 ^ 63, fun x => isTruthV x.1 x.2⟩
theorem eIsTruth (w : Wsh) (l : List Int) (hw : goodW w) (hl : l.length < 2 ^ 63) : S_ref07_IsTruth fcCanBe.sh (w, l) = M.pure (isTruthV w l) := by
  have hhd := wV_head hw.2
  unfold S_ref07_IsTruth
  rw [M.loop_listT (List.range (min l.length w.1.length)) (fun i (_ : Unit) => (l, (i : Int), w, ())) (fun (i : Nat) u => if (!canBe w (i : Int) (l.getD i 0)) = true then .done (.done false) else .next u) (fun _ => .next (l, w, ())) () ?_ ?_ ?_]
  · rw [foldS_anyN (q := fun (i : Nat) => canBe w (i : Int) (l.getD i 0)) _ _ (fun i => rfl)]
    unfold isTruthV
    have e : decide (Int.ofNat l.length = Int.ofNat w.1.length) = decide (l.length = w.1.length) := by rw [decide_eq_decide]; simp only [ofNat_def]; omega
    cases (List.range (min l.length w.1.length)).all fun (i : Nat) => canBe w (i : Int) (l.getD i 0) with
    | true => simp only [if_true, M.bind_pure, M.go_next, e, Bool.true_and]
    | false => simp only [Bool.false_eq_true, if_false, M.bind_pure, M.go_done, Bool.false_and]
  · rfl
  · intro i hi u
    have hi : i < min l.length w.1.length := by simpa using hi
    have hi1 : i < l.length := by omega
    have hi2 : i < w.1.length := by omega
    have hwi := wrap64 (n := (i : Int) + 1) (by omega) (by omega)
    have hs : isSpareV w (i : Int) = true := isSpareV_iff.2 ⟨by omega, by omega⟩
    have hp : goodW w ∧ isSpareV w (i : Int) = true := ⟨hw, hs⟩
    simp only [ofNat_def, lt_len hi1, lt_len hi2, Bool.and_self, if_true, in_len hi1, M.req_True, List.getElem_range, FC.sh, M.safe_det, M.val_det, M.req_true hp, Int.toNat_natCast, M.bind_pure, add_def, hwi]
    exact fin_step (mk := fun _ : Unit => (l, (i : Int) + 1, w, ()))
  · intro u
    have : (decide (((List.range (min l.length w.1.length)).length : Int) < Int.ofNat l.length) && decide (((List.range (min l.length w.1.length)).length : Int) < Int.ofNat w.1.length)) = false := by
      simp only [List.length_range, ofNat_def]
      by_cases h : l.length ≤ w.1.length
      · have : min l.length w.1.length = l.length := by omega
        simp [this]
      · have : min l.length w.1.length = w.1.length := by omega
        simp [this]
    simp only [this, Bool.false_eq_true, if_false, M.bind_pure]
theorem sIsTruth (x) : M.le (S_ref07_IsTruth fcCanBe.sh x) (fcIsTruth.sh x) := M.le_det fun h => eIsTruth x.1 x.2 h.1 h.2
theorem truth_at {w : Wsh} {l : List Int} (h : isTruthV w l = true) : l.length = w.1.length ∧ ∀ i, isSpareV w i = true → l.getD i.toNat 0 ∈ lens w i := by
  unfold isTruthV at h
  simp only [Bool.and_eq_true, List.all_eq_true, List.mem_range, decide_eq_true_eq] at h
  refine ⟨h.2, fun i hi => ?_⟩
  have r := isSpareV_iff.1 hi
  have h1 := h.1 i.toNat (by omega)
  rw [Int.toNat_of_nonneg r.1] at h1
  unfold lens
  rw [List.mem_filter]
  refine ⟨?_, h1⟩
  unfold canBe at h1
  simp only [Bool.and_eq_true, decide_eq_true_eq] at h1
  exact mem_intR.2 h1.2
def agreesV (n : Int) (b : Bool) : Bool := if n = 1 then b else if n = 2 then !b else decide (n = 3)
abbrev fcAgrees : FC := ⟨.prod tI tB, tB, fun _ => True, fun x => agreesV x.1 x.2⟩
theorem sAgrees (x) : M.le (S_law07_agrees x) (fcAgrees.sh x) := M.le_det fun _ => by
  unfold S_law07_agrees
  show _ = M.pure (agreesV x.1 x.2)
  unfold agreesV
  simp only [decide_eq_true_eq]
  split
  · rfl
  · split <;> rfl
theorem agrees_isV {α : Type} {f : α → Bool} {l : List α} {x : α} (hx : x ∈ l) : agreesV (isV (l.countP f : Int) (l.length : Int)) (f x) = true := by
  unfold agreesV
  rcases isV_cases (l.countP f : Int) (l.length : Int) with e | e | e
  · rw [e]; rw [isV_1] at e; simp [e x hx]
  · rw [e]; rw [isV_2 (List.ne_nil_of_mem hx)] at e
    have := e x hx
    simp at this
    simp [this]
  · rw [e]; simp
theorem cov_bit {w : Wsh} {i n m : Int} {k : Nat} : (covN w i n m).testBit k = (decide (k < (slotsOfV w m).length) && fitsAt w i n m (k : Int)) := by
  unfold covN
  have key : ∀ (l : List Nat) (b : Nat), (l.foldl (fun b (k : Nat) => if fitsAt w i n m (k : Int) = true then b ||| 2 ^ k else b) b).testBit k = (b.testBit k || (decide (k ∈ l) && fitsAt w i n m (k : Int))) := by
    intro l
    induction l with
    | nil => intro b; simp
    | cons j l ih =>
      intro b
      simp only [List.foldl_cons]
      rw [ih]
      by_cases hf : fitsAt w i n m (j : Int) = true
      · rw [if_pos hf, Nat.testBit_or, Nat.testBit_two_pow]
        by_cases e : k = j
        · subst e; simp [hf]
        · have e2 : ¬ j = k := fun h => e h.symm
          simp [e, e2]
      · rw [if_neg hf]
        by_cases e : k = j
        · subst e; simp [hf]
        · simp [e]
  rw [key]
  simp
def truthN (w : Wsh) (l list : List Int) (m : Int) : Nat := list.foldl (fun b i => b ||| covN w i (l.getD i.toNat 0) m) 0
theorem truthN_mem {w : Wsh} {l list : List Int} {m : Int} (hi : ∀ i ∈ list, isSpareV w i = true) (ht : ∀ i ∈ list, l.getD i.toNat 0 ∈ lens w i) : (truthN w l list m : Int) ∈ canV (casesV w m) list := by
  unfold truthN canV
  have key : ∀ (list : List Int) (b : Nat) (can : List Int), (∀ i ∈ list, isSpareV w i = true) → (∀ i ∈ list, l.getD i.toNat 0 ∈ lens w i) → (b : Int) ∈ can →
      ((list.foldl (fun b i => b ||| covN w i (l.getD i.toNat 0) m) b : Nat) : Int) ∈ list.foldl (fun can i => stepC can ((casesV w m).getD i.toNat [])) can := by
    intro list
    induction list with
    | nil => intro b can _ _ h; exact h
    | cons i list ih =>
      intro b can h1 h2 h3
      simp only [List.foldl_cons]
      refine ih _ _ (fun j hj => h1 j (List.mem_cons_of_mem _ hj)) (fun j hj => h2 j (List.mem_cons_of_mem _ hj)) ?_
      rw [casesV_get (h1 i (by simp)), mem_stepC]
      exact ⟨covV w i (l.getD i.toNat 0) m, mem_caseV.2 ⟨_, h2 i (by simp), rfl⟩, (b : Int), h3, by unfold orI covV; simp only [Int.toNat_natCast]⟩
  exact key list 0 [0] hi ht (by simp)
theorem truthN_bit {w : Wsh} {l : List Int} {m : Int} {k : Nat} : ∀ (list : List Int) (b : Nat), (list.foldl (fun b i => b ||| covN w i (l.getD i.toNat 0) m) b).testBit k = (b.testBit k || list.any fun i => decide (k < (slotsOfV w m).length) && fitsAt w i (l.getD i.toNat 0) m (k : Int))
  | [], b => by simp
  | i :: list, b => by
    simp only [List.foldl_cons, List.any_cons]
    rw [truthN_bit list, Nat.testBit_or, cov_bit, Bool.or_assoc]
def mendedV (w : Wsh) (l list : List Int) (m : Int) : Bool := (List.range (slotsOfV w m).length).all fun (k : Nat) => list.any fun i => fitsAt w i (l.getD i.toNat 0) m (k : Int)
theorem truthN_full {w : Wsh} {l list : List Int} {m : Int} : decide ((truthN w l list m : Int) = fullV w m) = mendedV w l list m := by
  have hf : fullV w m = ((2 ^ (slotsOfV w m).length - 1 : Nat) : Int) := by
    unfold fullV
    have := Nat.two_pow_pos (slotsOfV w m).length
    omega
  rw [hf, Bool.eq_iff_iff, decide_eq_true_eq]
  have e : (truthN w l list m : Int) = ((2 ^ (slotsOfV w m).length - 1 : Nat) : Int) ↔ truthN w l list m = 2 ^ (slotsOfV w m).length - 1 := by omega
  rw [e]
  unfold mendedV
  simp only [List.all_eq_true, List.mem_range]
  constructor
  · intro h k hk
    have := congrArg (fun b => b.testBit k) h
    simp only [truthN, truthN_bit, Nat.zero_testBit, Bool.false_or, Nat.testBit_two_pow_sub_one, hk, decide_true, Bool.true_and] at this
    exact this
  · intro h
    refine Nat.eq_of_testBit_eq fun k => ?_
    simp only [truthN, truthN_bit, Nat.zero_testBit, Bool.false_or, Nat.testBit_two_pow_sub_one]
    by_cases hk : k < (slotsOfV w m).length
    · have := h k hk
      simp only [hk, decide_true, Bool.true_and, this]
    · simp [hk]
theorem agrees_mend {w : Wsh} {l list : List Int} {m : Int} (hi : ∀ i ∈ list, isSpareV w i = true) (ht : ∀ i ∈ list, l.getD i.toNat 0 ∈ lens w i) : agreesV (mendV w list m) (mendedV w l list m) = true := by
  rw [← truthN_full]
  exact agrees_isV (f := fun b => decide (b = fullV w m)) (truthN_mem hi ht)
theorem lawTrue (x : Wsh × (List Int × List Int) × Int × Int × Int) (h : smallW x.1) (hl1 : x.2.1.1.length < 2 ^ 63) (hl2 : x.2.1.2.length < 2 ^ 63) :
    S_law07_PartsTrueJ fcReady.sh fcWorks.sh fcIsSpare.sh fcLength.sh fcFits.sh fcMends.sh fcIsTruth.sh fcIsAsk.sh fcCanBe.sh fcAgrees.sh fcFitsAt.sh x = M.pure true := by
  obtain ⟨w, ⟨l, list⟩, i, m, k⟩ := x
  change smallW w at h
  change l.length < 2 ^ 63 at hl1
  change list.length < 2 ^ 63 at hl2
  unfold S_law07_PartsTrueJ
  simp only [FC.sh, M.bind_det, M.req_true h, M.req_True, ofNat_def, M.gdo_det]
  cases hr : readyV w with
  | false => simp [M.req_true h]
  | true =>
    obtain ⟨hcp, hk⟩ := ready_of hr
    have hw := good_of_known h hk
    have hpt : goodW w ∧ l.length < 2 ^ 63 := ⟨hw, hl1⟩
    simp only [Bool.not_true, Bool.not_false, true_implies, M.req_true hpt, if_true, Bool.false_or]
    cases htr : isTruthV w l with
    | false => simp [M.req_true h]
    | true =>
      simp only [Bool.not_true, Bool.not_false, true_implies, M.req_true h, if_true, Bool.false_or]
      by_cases hc : (!(isSpareV w i && isSlotOfV w m k) || decide ((list.length : Int) > 20)) = true
      · simp only [hc, if_true]
      · rw [if_neg hc]
        have hi : isSpareV w i = true ∧ isSlotOfV w m k = true := by
          simp only [Bool.or_eq_true, not_or] at hc
          simpa using hc.1
        have hls : list.length ≤ 20 := by
          simp only [Bool.or_eq_true, not_or, decide_eq_true_eq] at hc
          omega
        obtain ⟨hlen, hat⟩ := truth_at htr
        have hir := isSpareV_iff.1 hi.1
        have r1 : 0 ≤ i ∧ i < (l.length : Int) := by rw [hlen]; exact hir
        have a1 : lengthV w i = (((lens w i).getD 0 0, (lens w i).getD ((lens w i).length - 1) 0), 0) := by
          unfold lengthV; rw [hi.1, hk]; simp
        have b1 : fitsR w i m k = (fitsV w i m k, 0) := by unfold fitsR; rw [hi.1, hi.2, Bool.and_self, hk]; simp
        have hin := hat i hi.1
        obtain ⟨e1, e2⟩ := asc_ends (lens_asc w i) hin
        have hp := lens_pos (knownV_0 hk).2.2 (i := i) hi.1
        obtain ⟨m1, m2⟩ := ends_mem hp
        have cb : ∀ n ∈ lens w i, canBe w i n = true := fun n hn => (List.mem_filter.1 hn).2
        have hcb : goodW w ∧ isSpareV w i = true := ⟨hw, hi.1⟩
        have hfa : goodW w ∧ isSpareV w i = true ∧ isSlotOfV w m k = true := ⟨hw, hi.1, hi.2⟩
        have l1 : ¬ l.getD i.toNat 0 < (lens w i).getD 0 0 := by omega
        have l2 : ¬ l.getD i.toNat 0 > (lens w i).getD ((lens w i).length - 1) 0 := by omega
        have ag := agrees_isV (f := fun n => fitsAt w i n m k) hin
        simp only [a1, b1, M.bind_pure, M.go_next, ne_eq, not_true, decide_false, Bool.not_false, true_implies, and_self, M.req_True, Bool.or_self, implies_true, r1, l1, l2, M.safe_det, M.val_det, hcb, cb _ m1, cb _ m2, Bool.not_true, Bool.false_eq_true, if_false, M.req_true hfa]
        have ag' : agreesV (fitsV w i m k) (fitsAt w i (l.getD i.toNat 0) m k) = true := ag
        have hp2 : smallW w ∧ list.length < 2 ^ 63 := ⟨h, hl2⟩
        simp only [hi.2, and_self, M.req_True, M.bind_pure, M.go_next, ag', Bool.not_true, Bool.false_eq_true, if_false, M.req_true hp2]
        have hmk : isMakeV w m = true := by
          have := hi.2
          unfold isSlotOfV at this
          simp only [Bool.and_eq_true] at this
          exact this.1
        have hmr := isMakeV_iff.1 hmk
        by_cases hlst : isListV w list = true
        · have hmd : mendsR w list m = (mendV w list m, 0) := by unfold mendsR; rw [hlst, hmk, Bool.and_self, hk]; simp
          have hsp := isListV_mem hlst
          have hsll := slots_le hw hmk
          have hg : List.getD w.2.1 m.toNat [] = slotsOfV w m := rfl
          simp only [hmd, not_true, decide_false, Bool.false_eq_true, if_false]
          rw [M.loop_listT (List.range (slotsOfV w m).length) (fun q (b : Bool) => (mendV w list m, b, (q : Int), w, (l, list), (i, m, k), ())) (fun (q : Nat) b => .next (b && list.any fun j => fitsAt w j (l.getD j.toNat 0) m (q : Int))) (fun b => .next (mendV w list m, b, ())) true ?_ ?_ ?_]
          · rw [foldS_next, foldl_all]
            simp only [M.bind_pure, M.go_next, Bool.true_and]
            have := agrees_mend (w := w) (l := l) (m := m) hsp fun j hj => hat j (hsp j hj)
            unfold mendedV at this
            rw [this]
            simp
          · rfl
          · intro q hq b
            have hq : q < (slotsOfV w m).length := by simpa using hq
            have hwq := wrap64 (n := (q : Int) + 1) (by omega) (by omega)
            have hsq : isSlotOfV w m (q : Int) = true := isSlotOfV_iff.2 ⟨hmr, by omega, by omega⟩
            simp only [hmr, and_self, M.req_True, hg, lt_len hq, if_true, List.getElem_range]
            rw [M.loop_listT list (fun r (c : Bool) => (mendV w list m, b, (q : Int), c, (r : Int), w, (l, list), (i, m, k), ())) (fun j c => .next (c || fitsAt w j (l.getD j.toNat 0) m (q : Int))) (fun c => .next (mendV w list m, b, (q : Int), c, w, (l, list), (i, m, k), ())) false ?_ ?_ ?_]
            · rw [foldS_next]
              have fo : ∀ (list : List Int) (c : Bool), list.foldl (fun c j => c || fitsAt w j (l.getD j.toNat 0) m (q : Int)) c = (c || list.any fun j => fitsAt w j (l.getD j.toNat 0) m (q : Int)) := by
                intro list
                induction list with
                | nil => intro c; simp
                | cons j list ih => intro c; simp only [List.foldl_cons, List.any_cons]; rw [ih, Bool.or_assoc]
              rw [fo]
              simp only [M.bind_pure, M.go_next, Bool.false_or, add_def, hwq]
              rfl
            · rfl
            · intro r hrr c
              have hwr := wrap64 (n := (r : Int) + 1) (by omega) (by omega)
              have hs1 := hsp _ (List.getElem_mem hrr)
              have hs2 := isSpareV_iff.1 hs1
              have hs3 : 0 ≤ list[r] ∧ list[r] < (l.length : Int) := by rw [hlen]; exact hs2
              have hfa2 : goodW w ∧ isSpareV w list[r] = true ∧ isSlotOfV w m (q : Int) = true := ⟨hw, hs1, hsq⟩
              simp only [lt_len hrr, if_true, in_len hrr, M.req_True, getD_nat hrr, M.req_true h, hs1, Bool.not_true, Bool.false_eq_true, if_false, hs3, hw, hsq, and_self, and_true, add_def, hwr]
              cases c
              · simp
              · simp
            · intro c
              simp
          · intro b
            simp only [hmr, and_self, M.req_True, hg, List.length_range, Int.lt_irrefl, decide_false, Bool.false_eq_true, if_false, M.bind_pure]
        · have hmd : mendsR w list m = (0, 1) := by
            unfold mendsR
            rw [knownV_true hk]
            simp [hlst]
          simp [hmd]
end Go.Fer
namespace Go.Fer.Sk
open Go.Proofs
open M (Step)
set_option maxRecDepth 100000
set_option linter.unusedVariables false
set_option linter.unusedSimpArgs false
noncomputable def b_k38 : Code := Try.f38.body.getD .skip
theorem b_k38_ok : Try.f38.body = some b_k38 := by kernel_rfl
noncomputable def Psi_k38 (k : Nat) : Option KC := if k = 40 then some (.sc ⟨(.prod t26 (.prod t3 t3)), t4, fcCanBe.sh, true⟩) else none
theorem Psi_k38_ok : PsiOk Try.prog noU Psi_k38 := by
  intro k c h
  unfold Psi_k38 at h
  split at h
  · cases h; subst_vars; exact ⟨spec_k40, fun _ _ => M.det_det⟩
  cases h
def ann_k38 : Ann := (.seq .leaf (.join ⟨[(1, .val t36), (2, .loc 2 0)], [(2, .whole t26)]⟩ (.seq .leaf (.block (.loop ⟨[(1, .val t36), (2, .loc 2 0), (5, .val t3)], [(2, .whole t26)]⟩ (.seq (.seq .leaf (.cond .leaf .leaf)) (.seq (.block (.seq .leaf (.cond (.seq .leaf .leaf) .leaf))) .leaf))))) (.seq .leaf .leaf)))
theorem l_k38 (x) : funI noU (tabT tab) noPhi Psi_k38 Try.f38 b_k38 ann_k38 (.prod t26 t36) t4 x = S_ref07_IsTruth fcCanBe.sh x := by kernel_rfl
theorem spec_k38 : FnSpec Try.prog 38 (.prod t26 t36) t4 fcIsTruth.sh :=
  fn_ok mixOk tabOk noU_ok noPhi_ok Psi_k38_ok Try.func38 b_k38_ok (by kernel_rfl) fun x => M.le_trans (M.le_of_eq (l_k38 x)) (sIsTruth x)
noncomputable def b_k39 : Code := Try.f39.body.getD .skip
theorem b_k39_ok : Try.f39.body = some b_k39 := by kernel_rfl
noncomputable def Psi_k39 (k : Nat) : Option KC := if k = 20 then some (.sc ⟨(.prod t26 t3), t4, fcIsSpare.sh, true⟩) else if k = 22 then some (.sc ⟨(.prod t26 (.prod t3 t3)), t4, fcIsSlotOf.sh, true⟩) else none
theorem Psi_k39_ok : PsiOk Try.prog noU Psi_k39 := by
  intro k c h
  unfold Psi_k39 at h
  split at h
  · cases h; subst_vars; exact ⟨spec_k20, fun _ _ => M.det_det⟩
  split at h
  · cases h; subst_vars; exact ⟨spec_k22, fun _ _ => M.det_det⟩
  cases h
def ann_k39 : Ann := (.seq .leaf (.seq .leaf .leaf))
theorem l_k39 (x) : funI noU (tabT tab) noPhi Psi_k39 Try.f39 b_k39 ann_k39 (.prod t26 t58) t4 x = S_law07_isAsk fcIsSpare.sh fcIsSlotOf.sh x := by kernel_rfl
theorem spec_k39 : FnSpec Try.prog 39 (.prod t26 t58) t4 fcIsAsk.sh :=
  fn_ok mixOk tabOk noU_ok noPhi_ok Psi_k39_ok Try.func39 b_k39_ok (by kernel_rfl) fun x => M.le_trans (M.le_of_eq (l_k39 x)) (sIsAsk x)
noncomputable def b_k41 : Code := Try.f41.body.getD .skip
theorem b_k41_ok : Try.f41.body = some b_k41 := by kernel_rfl
noncomputable def Psi_k41 (k : Nat) : Option KC := none
theorem Psi_k41_ok : PsiOk Try.prog noU Psi_k41 := by
  intro k c h
  unfold Psi_k41 at h
  cases h
def ann_k41 : Ann := (.seq .leaf (.seq (.seq .leaf (.block (.seq .leaf (.cond (.seq .leaf .leaf) (.seq .leaf (.cond (.seq .leaf .leaf) .leaf)))))) (.seq .leaf .leaf)))
theorem l_k41 (x) : funI noU (tabT tab) noPhi Psi_k41 Try.f41 b_k41 ann_k41 (.prod t3 t4) t4 x = S_law07_agrees  x := by kernel_rfl
theorem spec_k41 : FnSpec Try.prog 41 (.prod t3 t4) t4 fcAgrees.sh :=
  fn_ok mixOk tabOk noU_ok noPhi_ok Psi_k41_ok Try.func41 b_k41_ok (by kernel_rfl) fun x => M.le_trans (M.le_of_eq (l_k41 x)) (sAgrees x)
noncomputable def b_k8 : Code := Try.f8.body.getD .skip
theorem b_k8_ok : Try.f8.body = some b_k8 := by kernel_rfl
noncomputable def Psi_k8 (k : Nat) : Option KC := if k = 13 then some (.sc ⟨t26, t4, fcReady.sh, true⟩) else if k = 14 then some (.sc ⟨.unit, t4, fcWorks.sh, true⟩) else if k = 20 then some (.sc ⟨(.prod t26 t3), t4, fcIsSpare.sh, true⟩) else if k = 27 then some (.sc ⟨(.prod t26 t3), (.prod t28 t33), fcLength.sh, true⟩) else if k = 29 then some (.sc ⟨(.prod t26 (.prod t3 (.prod t3 t3))), (.prod t3 t33), fcFits.sh, true⟩) else if k = 36 then some (.sc ⟨(.prod t26 (.prod t36 t3)), (.prod t3 t33), fcMends.sh, true⟩) else if k = 38 then some (.sc ⟨(.prod t26 t36), t4, fcIsTruth.sh, true⟩) else if k = 39 then some (.sc ⟨(.prod t26 t58), t4, fcIsAsk.sh, true⟩) else if k = 40 then some (.sc ⟨(.prod t26 (.prod t3 t3)), t4, fcCanBe.sh, true⟩) else if k = 41 then some (.sc ⟨(.prod t3 t4), t4, fcAgrees.sh, true⟩) else if k = 42 then some (.sc ⟨(.prod t26 (.prod t3 (.prod t3 (.prod t3 t3)))), t4, fcFitsAt.sh, true⟩) else none
theorem Psi_k8_ok : PsiOk Try.prog noU Psi_k8 := by
  intro k c h
  unfold Psi_k8 at h
  split at h
  · cases h; subst_vars; exact ⟨spec_k13, fun _ _ => M.det_det⟩
  split at h
  · cases h; subst_vars; exact ⟨spec_k14, fun _ _ => M.det_det⟩
  split at h
  · cases h; subst_vars; exact ⟨spec_k20, fun _ _ => M.det_det⟩
  split at h
  · cases h; subst_vars; exact ⟨spec_k27, fun _ _ => M.det_det⟩
  split at h
  · cases h; subst_vars; exact ⟨spec_k29, fun _ _ => M.det_det⟩
  split at h
  · cases h; subst_vars; exact ⟨spec_k36, fun _ _ => M.det_det⟩
  split at h
  · cases h; subst_vars; exact ⟨spec_k38, fun _ _ => M.det_det⟩
  split at h
  · cases h; subst_vars; exact ⟨spec_k39, fun _ _ => M.det_det⟩
  split at h
  · cases h; subst_vars; exact ⟨spec_k40, fun _ _ => M.det_det⟩
  split at h
  · cases h; subst_vars; exact ⟨spec_k41, fun _ _ => M.det_det⟩
  split at h
  · cases h; subst_vars; exact ⟨spec_k42, fun _ _ => M.det_det⟩
  cases h
def ann_k8 : Ann := (.seq .leaf (.seq (.seq .leaf (.cond (.seq .leaf .leaf) .leaf)) (.seq .leaf (.join ⟨[(3, .loc 3 0), (4, .loc 4 0), (5, .loc 5 0), (7, .loc 7 0), (8, .val t33), (9, .val t3), (10, .val t33)], [(3, .whole t26), (4, .whole t69), (5, .whole t58), (7, .whole t28)]⟩ .leaf (.join ⟨[(3, .loc 3 0), (4, .loc 4 0), (5, .loc 5 0), (9, .val t3)], [(3, .whole t26), (4, .whole t69), (5, .whole t58)]⟩ (.seq .leaf (.cond (.seq .leaf .leaf) .leaf)) (.seq (.seq .leaf (.cond (.seq .leaf .leaf) .leaf)) (.seq .leaf (.seq (.seq .leaf (.cond (.seq .leaf .leaf) .leaf)) (.seq .leaf (.join ⟨[(11, .val t3), (13, .val t4)], []⟩ (.seq .leaf (.block (.loop ⟨[(3, .loc 3 0), (4, .loc 4 0), (5, .loc 5 0), (11, .val t3), (13, .val t4), (14, .val t3)], [(3, .whole t26), (4, .whole t69), (5, .whole t58)]⟩ (.seq (.seq .leaf (.cond .leaf .leaf)) (.join ⟨[(3, .loc 3 0), (4, .loc 4 0), (5, .loc 5 0), (11, .val t3), (13, .val t4), (14, .val t3)], [(3, .whole t26), (4, .whole t69), (5, .whole t58)]⟩ (.block (.seq .leaf (.join ⟨[(3, .loc 3 0), (4, .loc 4 0), (5, .loc 5 0), (11, .val t3), (13, .val t4), (14, .val t3), (15, .val t4)], [(3, .whole t26), (4, .whole t69), (5, .whole t58)]⟩ (.seq .leaf (.block (.loop ⟨[(3, .loc 3 0), (4, .loc 4 0), (5, .loc 5 0), (11, .val t3), (13, .val t4), (14, .val t3), (15, .val t4), (16, .val t3)], [(3, .whole t26), (4, .whole t69), (5, .whole t58)]⟩ (.seq (.seq .leaf (.cond .leaf .leaf)) (.seq (.block (.seq (.seq .leaf (.cond (.seq .leaf .leaf) .leaf)) .leaf)) .leaf))))) .leaf))) .leaf))))) (.seq .leaf .leaf)))))))))))
theorem l_k8 (x) : funI noU (tabT tab) noPhi Psi_k8 Try.f8 b_k8 ann_k8 (.prod t26 (.prod t69 t58)) t4 x = S_law07_PartsTrueJ fcReady.sh fcWorks.sh fcIsSpare.sh fcLength.sh fcFits.sh fcMends.sh fcIsTruth.sh fcIsAsk.sh fcCanBe.sh fcAgrees.sh fcFitsAt.sh x := by kernel_rfl
theorem spec_k8 : FnSpec Try.prog 8 (.prod t26 (.prod t69 t58)) t4 (fun x => S_law07_PartsTrueJ fcReady.sh fcWorks.sh fcIsSpare.sh fcLength.sh fcFits.sh fcMends.sh fcIsTruth.sh fcIsAsk.sh fcCanBe.sh fcAgrees.sh fcFitsAt.sh x) :=
  fn_ok mixOk tabOk noU_ok noPhi_ok Psi_k8_ok Try.func8 b_k8_ok (by kernel_rfl) fun x => M.le_of_eq (l_k8 x)
end Go.Fer.Sk
