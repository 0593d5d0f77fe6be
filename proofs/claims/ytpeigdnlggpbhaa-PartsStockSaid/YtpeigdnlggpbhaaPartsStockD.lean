/- Part 4 of the proof of PartsStock: shallow programs of Go functions, and what they compute. No condition. -/
import Derived.Test.YtpeigdnlggpbhaaPartsStockC
namespace Go.Fer
open M (Step)
set_option linter.unusedVariables false
noncomputable def S_law07_PartsStock (c_law07_ready : List (Int × Int × Int × Int) × List (List (Int × List Int × Int × Int)) × Int × List (Int × Int × Int × Int) → M Bool) (c_law07_works : Unit → M Bool) (c_parts_Needed : List (Int × Int × Int × Int) × List (List (Int × List Int × Int × Int)) × Int × List (Int × Int × Int × Int) → M (List Int × Int)) (c_ref07_CopyIO : Wsh × Unit → M (Int × List (Int × Int × Int × Int) × List (Int × Int × Int × Int) × List (List (Int × List Int × Int × Int)) × Unit)) (c_ref07_IsTask : Wsh × List Int × List (Int × Int) → M Bool) (c_ref07_IsSpare : Wsh × Int → M Bool) (c_parts_Most : Wsh × List Int × List (Int × Int) → M (Int × Int)) (c_ref07_IsSlotOf : Wsh × Int × Int → M Bool) (c_law07_sameInts : List Int × List Int → M Bool) (x : Wsh × (List Int × List (Int × Int)) × Int × (Int × Int) × Int) : M Bool :=
  M.bind (c_law07_ready x.1) fun y => M.bind (gdo (!(!y || decide (Int.ofNat (List.length x.2.1.1) > 40) || decide (Int.ofNat (List.length x.2.1.2) >
  9))) (c_ref07_IsTask (x.1, x.2.1)) false) fun y_1 => M.bind (gdo (!(!y || decide (Int.ofNat (List.length x.2.1.1) > 40) || decide (Int.ofNat
  (List.length x.2.1.2) > 9) || !y_1)) (c_ref07_IsSpare (x.1, x.2.2.1)) false) fun y_2 => if (!y || decide (Int.ofNat (List.length x.2.1.1) > 40) ||
  decide (Int.ofNat (List.length x.2.1.2) > 9) || !y_1 || !y_2 || decide (x.2.2.2.2 < 0) || decide (x.2.2.2.2 > 100)) = true then M.bind (c_law07_works
  ()) fun y => M.pure y else M.bind (c_parts_Most (x.1, x.2.1)) fun y => if decide (y.2 ≠ 0) = true then M.pure false else M.req (lenLe (Add.add 0
  (List.length x.2.1.1))) (M.req (0 ≤ x.2.2.1 ∧ x.2.2.1 < Int.ofNat (List.length ([] ++ x.2.1.1))) (M.req (0 ≤ x.2.2.1 ∧ x.2.2.1 < Int.ofNat
  (List.length ([] ++ x.2.1.1))) (M.bind (c_parts_Most (x.1, List.set ([] ++ x.2.1.1) (Int.toNat x.2.2.1) (if IntKind.wrap .i64 (Add.add (List.getD ([]
  ++ x.2.1.1) (Int.toNat x.2.2.1) 0) 1) < 10 then IntKind.wrap .i64 (Add.add (List.getD ([] ++ x.2.1.1) (Int.toNat x.2.2.1) 0) 1) else 10), x.2.1.2))
  fun y_3 => if (decide (y_3.2 ≠ 0) || decide (y_3.1 < y.1) || decide (y_3.1 > IntKind.wrap .i64 (Add.add y.1 1))) = true then M.pure false else M.bind
  (M.bind (c_ref07_IsSlotOf (x.1, x.2.2.2.1)) fun y_4 => if y_4 = true then M.req (lenLe (Add.add 0 (List.length x.2.1.2))) (M.req (lenLe (Add.add
  (List.length ([] ++ x.2.1.2)) (Add.add 0 1))) (M.req (c_parts_Most (x.1, x.2.1.1, [] ++ x.2.1.2 ++ [x.2.2.2.1])).safe (if (decide ((M.val
  (c_parts_Most (x.1, x.2.1.1, [] ++ x.2.1.2 ++ [x.2.2.2.1])) (0, 0)).2 ≠ 0) || decide ((M.val (c_parts_Most (x.1, x.2.1.1, [] ++ x.2.1.2 ++
  [x.2.2.2.1])) (0, 0)).1 < y.1) || decide ((M.val (c_parts_Most (x.1, x.2.1.1, [] ++ x.2.1.2 ++ [x.2.2.2.1])) (0, 0)).1 > IntKind.wrap .i64 (Add.add
  y.1 1))) = true then M.bind (M.pure false) fun r => M.pure (Step.done r) else M.pure (Step.next (y.1, x.1, x.2.1, x.2.2, ()))))) else M.pure
  (Step.next (y.1, x.1, x.2.1, x.2.2, ()))) (Step.go fun (σ : Int × Wsh × (List Int × List (Int × Int)) × (Int × (Int × Int) × Int) × Unit) => M.bind
  (c_ref07_CopyIO (σ.2.1, ())) fun y => M.bind (M.loop (fun (σ : Int × Int × Wsh × (List Int × List (Int × Int)) × (Int × (Int × Int) × Int) × Int ×
  List (Int × Int) × List (Int × Int × Int × Int) × List (Int × Int × Int × Int) × List (List (Int × List Int × Int × Int)) × Unit) => if decide (σ.2.1
  < Int.ofNat (List.length σ.2.2.2.1.2)) = true then M.req (Int.ofNat (List.length σ.2.2.2.1.2) ≠ 0) (M.req (0 ≤ Int.tmod (IntKind.wrap .i64 (Add.add
  σ.2.1 σ.2.2.2.2.1.2.2)) (Int.ofNat (List.length σ.2.2.2.1.2)) ∧ Int.tmod (IntKind.wrap .i64 (Add.add σ.2.1 σ.2.2.2.2.1.2.2)) (Int.ofNat (List.length
  σ.2.2.2.1.2)) < Int.ofNat (List.length σ.2.2.2.1.2)) (M.req (lenLe (Add.add (List.length σ.2.2.2.2.2.2.1) (Add.add 0 1))) (M.pure (Step.next (σ.1,
  IntKind.wrap .i64 (Add.add σ.2.1 1), σ.2.2.1, σ.2.2.2.1, σ.2.2.2.2.1, σ.2.2.2.2.2.1, σ.2.2.2.2.2.2.1 ++ [List.getD σ.2.2.2.1.2 (Int.toNat (Int.tmod
  (IntKind.wrap .i64 (Add.add σ.2.1 σ.2.2.2.2.1.2.2)) (Int.ofNat (List.length σ.2.2.2.1.2)))) (0, 0)], σ.2.2.2.2.2.2.2.1, σ.2.2.2.2.2.2.2.2.1,
  σ.2.2.2.2.2.2.2.2.2.1, ()))))) else M.bind (M.pure (Step.next (σ.1, σ.2.2.1, σ.2.2.2.1, σ.2.2.2.2.1, σ.2.2.2.2.2.1, σ.2.2.2.2.2.2.1,
  σ.2.2.2.2.2.2.2.1, σ.2.2.2.2.2.2.2.2.1, σ.2.2.2.2.2.2.2.2.2.1, ()))) fun r => M.pure (Step.done r)) (σ.1, 0, σ.2.1, σ.2.2.1, σ.2.2.2.1, y.1, [],
  y.2.1, y.2.2.1, y.2.2.2.1, ())) (Step.go fun (σ : Int × Wsh × (List Int × List (Int × Int)) × (Int × (Int × Int) × Int) × Int × List (Int × Int) ×
  List (Int × Int × Int × Int) × List (Int × Int × Int × Int) × List (List (Int × List Int × Int × Int)) × Unit) => M.bind (M.loop (fun (σ : Int × Int
  × Wsh × (List Int × List (Int × Int)) × (Int × (Int × Int) × Int) × Int × List (Int × Int) × List (Int × Int × Int × Int) × List (Int × Int × Int ×
  Int) × List (List (Int × List Int × Int × Int)) × Unit) => if decide (σ.2.1 < Int.ofNat (List.length σ.2.2.1.2.2.2)) = true then M.req (Int.ofNat
  (List.length σ.2.2.1.2.2.2) ≠ 0) (M.req (0 ≤ Int.tmod (IntKind.wrap .i64 (Add.add σ.2.1 σ.2.2.2.2.1.2.2)) (Int.ofNat (List.length σ.2.2.1.2.2.2)) ∧
  Int.tmod (IntKind.wrap .i64 (Add.add σ.2.1 σ.2.2.2.2.1.2.2)) (Int.ofNat (List.length σ.2.2.1.2.2.2)) < Int.ofNat (List.length σ.2.2.1.2.2.2)) (M.req
  (0 ≤ σ.2.1 ∧ σ.2.1 < Int.ofNat (List.length σ.2.2.2.2.2.2.2.2.1)) (M.pure (Step.next (σ.1, IntKind.wrap .i64 (Add.add σ.2.1 1), σ.2.2.1, σ.2.2.2.1,
  σ.2.2.2.2.1, σ.2.2.2.2.2.1, σ.2.2.2.2.2.2.1, σ.2.2.2.2.2.2.2.1, List.set σ.2.2.2.2.2.2.2.2.1 (Int.toNat σ.2.1) (List.getD σ.2.2.1.2.2.2 (Int.toNat
  (Int.tmod (IntKind.wrap .i64 (Add.add σ.2.1 σ.2.2.2.2.1.2.2)) (Int.ofNat (List.length σ.2.2.1.2.2.2)))) (0, 0, 0, 0)), σ.2.2.2.2.2.2.2.2.2.1, ())))))
  else M.bind (M.pure (Step.next (σ.1, σ.2.2.1, σ.2.2.2.1, σ.2.2.2.2.2.1, σ.2.2.2.2.2.2.1, σ.2.2.2.2.2.2.2.1, σ.2.2.2.2.2.2.2.2.1,
  σ.2.2.2.2.2.2.2.2.2.1, ()))) fun r => M.pure (Step.done r)) (σ.1, 0, σ.2.1, σ.2.2.1, σ.2.2.2.1, σ.2.2.2.2.1, σ.2.2.2.2.2.1, σ.2.2.2.2.2.2.1,
  σ.2.2.2.2.2.2.2.1, σ.2.2.2.2.2.2.2.2.1, ())) (Step.go fun (σ : Int × Wsh × (List Int × List (Int × Int)) × Int × List (Int × Int) × List (Int × Int ×
  Int × Int) × List (Int × Int × Int × Int) × List (List (Int × List Int × Int × Int)) × Unit) => M.bind (c_parts_Most ((σ.2.2.2.2.2.1,
  σ.2.2.2.2.2.2.2.1, σ.2.2.2.1, σ.2.2.2.2.2.2.1), σ.2.2.1.1, σ.2.2.2.2.1)) fun y => M.bind (c_parts_Needed σ.2.1) fun y_4 => M.bind (c_parts_Needed
  (σ.2.2.2.2.2.1, σ.2.2.2.2.2.2.2.1, σ.2.2.2.1, σ.2.2.2.2.2.2.1)) fun y_5 => M.bind (gdo (decide (y.2 = 0) && decide (y.1 = σ.1) && decide (y_4.2 =
  y_5.2)) (c_law07_sameInts (y_4.1, y_5.1)) false) fun y_6 => M.bind (gdo (decide (y.2 = 0) && decide (y.1 = σ.1) && decide (y_4.2 = y_5.2) && y_6)
  (c_law07_works ()) false) fun y_7 => M.pure (decide (y.2 = 0) && decide (y.1 = σ.1) && decide (y_4.2 = y_5.2) && y_6 && y_7)))))))
noncomputable def S_law07_ready (c_law07_Far : List (Int × Int × Int × Int) × List (List (Int × List Int × Int × Int)) × Int × List (Int × Int × Int × Int) → M Bool) (c_ref07_Known : List (Int × Int × Int × Int) × List (List (Int × List Int × Int × Int)) × Int × List (Int × Int × Int × Int) → M Int) (x : List (Int × Int × Int × Int) × List (List (Int × List Int × Int × Int)) × Int × List (Int × Int × Int × Int)) : M Bool :=
  M.bind (c_law07_Far x) fun y => M.bind (gdo (!y) (c_ref07_Known x) 0) fun y_1 => M.pure (!y && decide (y_1 = 0))
noncomputable def S_law07_works (c_parts_Fewest : List (Int × Int × Int × Int) × List (List (Int × List Int × Int × Int)) × Int × List (Int × Int × Int × Int) → M (Int × Int)) (c_parts_Needed : List (Int × Int × Int × Int) × List (List (Int × List Int × Int × Int)) × Int × List (Int × Int × Int × Int) → M (List Int × Int)) (c_parts_Most : Wsh × List Int × List (Int × Int) → M (Int × Int)) (c_law07_sameInts : List Int × List Int → M Bool) (c_parts_Length : Wsh × Int → M ((Int × Int) × Int)) (c_law07_Example : Unit → M Wsh) (c_law07_Jobs : Unit → M (List (Int × Int))) (x : Unit) : M Bool :=
  M.bind (c_law07_Example ()) fun y => M.bind (c_parts_Length (y, 0)) fun y_1 => M.bind (c_parts_Fewest y) fun y_2 => M.req (c_law07_Jobs ()).safe
  (M.req (c_parts_Most (y, [1, 0, 1, 1], M.val (c_law07_Jobs ()) [])).safe (M.bind (c_parts_Needed y) fun y_3 => M.bind (gdo (decide (y_1.2 = 0) &&
  decide (y_2.2 = 0) && decide ((M.val (c_parts_Most (y, [1, 0, 1, 1], M.val (c_law07_Jobs ()) [])) (0, 0)).2 = 0) && decide (y_3.2 = 0) && (decide
  (y_1.1.1 = 300) && decide (y_1.1.2 = 309)) && decide (y_2.1 = 3) && decide ((M.val (c_parts_Most (y, [1, 0, 1, 1], M.val (c_law07_Jobs ()) [])) (0,
  0)).1 = 3)) (c_law07_sameInts (y_3.1, [2, 3])) false) fun y_4 => M.pure (decide (y_1.2 = 0) && decide (y_2.2 = 0) && decide ((M.val (c_parts_Most (y,
  [1, 0, 1, 1], M.val (c_law07_Jobs ()) [])) (0, 0)).2 = 0) && decide (y_3.2 = 0) && (decide (y_1.1.1 = 300) && decide (y_1.1.2 = 309)) && decide
  (y_2.1 = 3) && decide ((M.val (c_parts_Most (y, [1, 0, 1, 1], M.val (c_law07_Jobs ()) [])) (0, 0)).1 = 3) && y_4)))
noncomputable def S_law07_sameInts  (x : List Int × List Int) : M Bool :=
  if decide (Int.ofNat (List.length x.1) ≠ Int.ofNat (List.length x.2)) = true then M.pure false else M.bind (M.loop (fun (σ : List Int × List Int ×
  Int × Unit) => if decide (σ.2.2.1 < Int.ofNat (List.length σ.1)) = true then M.req (0 ≤ σ.2.2.1 ∧ σ.2.2.1 < Int.ofNat (List.length σ.1)) (M.req (0 ≤
  σ.2.2.1 ∧ σ.2.2.1 < Int.ofNat (List.length σ.2.1)) (if decide (List.getD σ.1 (Int.toNat σ.2.2.1) 0 ≠ List.getD σ.2.1 (Int.toNat σ.2.2.1) 0) = true
  then M.bind (M.bind (M.pure false) fun r => M.pure (Step.done r)) fun r => M.pure (Step.done r) else M.pure (Step.next (σ.1, σ.2.1, IntKind.wrap .i64
  (Add.add σ.2.2.1 1), ())))) else M.bind (M.pure (Step.next ())) fun r => M.pure (Step.done r)) (x.1, x.2, 0, ())) (Step.go fun (σ : Unit) => M.pure
  true)
noncomputable def S_law07_Far (c_ref07_Check : List (Int × Int × Int × Int) × List (List (Int × List Int × Int × Int)) × Int × List (Int × Int × Int × Int) → M Int) (x : List (Int × Int × Int × Int) × List (List (Int × List Int × Int × Int)) × Int × List (Int × Int × Int × Int)) : M Bool :=
  if (decide (Int.ofNat (List.length x.1) > 40) || decide (Int.ofNat (List.length x.2.1) > 40) || decide (Int.ofNat (List.length x.2.2.2) > 60)) = true
  then M.pure true else M.bind (M.loop (fun (σ : Int × Wsh × Unit) => if decide (σ.1 < Int.ofNat (List.length σ.2.1.2.1)) = true then M.bind (M.req (0
  ≤ σ.1 ∧ σ.1 < Int.ofNat (List.length σ.2.1.2.1)) (if decide (Int.ofNat (List.length (List.getD σ.2.1.2.1 (Int.toNat σ.1) [])) > 20) = true then
  M.bind (M.bind (M.bind (M.pure true) fun r => M.pure (Step.done r)) fun r => M.pure (Step.done r)) fun r => M.pure (Step.done r) else M.loop (fun (σ
  : Int × Int × Wsh × Unit) => M.req (0 ≤ σ.1 ∧ σ.1 < Int.ofNat (List.length σ.2.2.1.2.1)) (if decide (σ.2.1 < Int.ofNat (List.length (List.getD
  σ.2.2.1.2.1 (Int.toNat σ.1) []))) = true then M.req (0 ≤ σ.1 ∧ σ.1 < Int.ofNat (List.length σ.2.2.1.2.1)) (M.req (0 ≤ σ.2.1 ∧ σ.2.1 < Int.ofNat
  (List.length (List.getD σ.2.2.1.2.1 (Int.toNat σ.1) []))) (if decide (Int.ofNat (List.length (List.getD (List.getD σ.2.2.1.2.1 (Int.toNat σ.1) [])
  (Int.toNat σ.2.1) (0, [], 0, 0)).2.1) > 20) = true then M.bind (M.bind (M.bind (M.bind (M.pure true) fun r => M.pure (Step.done r)) fun r => M.pure
  (Step.done r)) fun r => M.pure (Step.done r)) fun r => M.pure (Step.done r) else M.pure (Step.next (σ.1, IntKind.wrap .i64 (Add.add σ.2.1 1),
  σ.2.2.1, ())))) else M.bind (M.pure (Step.next (σ.1, σ.2.2.1, ()))) fun r => M.pure (Step.done r))) (σ.1, 0, σ.2.1, ()))) (Step.go fun (σ : Int × Wsh
  × Unit) => M.pure (Step.next (IntKind.wrap .i64 (Add.add σ.1 1), σ.2.1, ()))) else M.bind (M.pure (Step.next (σ.2.1, ()))) fun r => M.pure (Step.done
  r)) (0, x, ())) (Step.go fun (σ : Wsh × Unit) => M.bind (c_ref07_Check σ.1) fun y => if decide (y ≠ 0) = true then M.pure false else M.bind (M.loop
  (fun (σ : Int × Wsh × Unit) => if decide (σ.1 < Int.ofNat (List.length σ.2.1.1)) = true then M.req (0 ≤ σ.1 ∧ σ.1 < Int.ofNat (List.length σ.2.1.1))
  (M.req (0 ≤ σ.1 ∧ σ.1 < Int.ofNat (List.length σ.2.1.1)) (if decide (IntKind.wrap .i64 ((List.getD σ.2.1.1 (Int.toNat σ.1) (0, 0, 0, 0)).2.2.2 -
  (List.getD σ.2.1.1 (Int.toNat σ.1) (0, 0, 0, 0)).2.2.1) ≥ 50) = true then M.bind (M.bind (M.pure true) fun r => M.pure (Step.done r)) fun r => M.pure
  (Step.done r) else M.pure (Step.next (IntKind.wrap .i64 (Add.add σ.1 1), σ.2.1, ())))) else M.bind (M.pure (Step.next (σ.2.1, ()))) fun r => M.pure
  (Step.done r)) (0, σ.1, ())) (Step.go fun (σ : Wsh × Unit) => M.pure (decide (Int.ofNat (List.length σ.1.1) > 6) || decide (Int.ofNat (List.length
  σ.1.2.1) > 4) || decide (Int.ofNat (List.length σ.1.2.2.2) > 10))))
noncomputable def S_law07_Example  (x : Unit) : M Wsh :=
  M.pure ([(1, 2, 300, 310), (1, 3, 305, 305), (2, 1, 50, 60), (1, 2, 320, 330)], [[(1, [2, 3], 300, 306), (2, [1], 40, 58)], [(1, [2], 310, 326)]], 5,
  [(0, 1, 0, 0)])
noncomputable def S_law07_Jobs  (x : Unit) : M (List (Int × Int)) :=
  M.pure [(0, 0), (0, 0), (0, 1), (1, 0)]
end Go.Fer
namespace Go.Fer
open M (Step)
set_option linter.unusedVariables false
set_option linter.unusedSimpArgs false
theorem wrap64 {n : Int} (h1 : -9223372036854775808 ≤ n) (h2 : n < 9223372036854775808) : IntKind.i64.wrap n = n := by
  show (if (true && decide (n % 2 ^ 64 ≥ (2 ^ (64 - 1) : Int))) = true then n % 2 ^ 64 - 2 ^ 64 else n % 2 ^ 64) = n
  have e1 : (2 : Int) ^ 64 = 18446744073709551616 := by decide
  have e2 : (2 : Int) ^ (64 - 1) = 9223372036854775808 := by decide
  simp only [Bool.true_and, decide_eq_true_eq, e1, e2]
  split <;> omega
theorem add_def (a b : Int) : Add.add a b = a + b := rfl
theorem add_defN (a b : Nat) : Add.add a b = a + b := rfl
theorem append_def {α : Type} (a b : List α) : Append.append a b = a ++ b := rfl
theorem ofNat_def (n : Nat) : Int.ofNat n = (n : Int) := rfl
theorem or_gdo {x c d : Bool} : (x || !(if (!x) = true then c else d)) = (x || !c) := by cases x <;> rfl
theorem or_gdo2 {x c d : Bool} : (x || (if (!x) = true then c else d)) = (x || c) := by cases x <;> rfl
theorem and_gdo {x c d : Bool} : (x && (if x = true then c else d)) = (x && c) := by cases x <;> rfl
namespace M
variable {α β γ σ ρ : Type}
theorem le_det {m : M α} {p : Prop} {v : α} (h : p → m = pure v) : le m (det p v) := fun hp => by
  rw [h hp]; exact ⟨trivial, fun _ hy => hy⟩
theorem le_detR {m : M α} {p : Prop} {v : α} (h : p → Ret m fun y => y = v) : le m (det p v) := fun hp => h hp
theorem val_det {p : Prop} {v d : α} : (det p v).val d = v := by
  unfold val
  have h : ∃ x, (det p v).out x := ⟨v, rfl⟩
  rw [dif_pos h]
  exact h.choose_spec
theorem val_pure {v d : α} : (pure v).val d = v := val_det (p := True)
theorem safe_det {p : Prop} {v : α} : (det p v).safe = p := rfl
theorem det_det {p : Prop} {v : α} : (det p v).Det := fun _ _ h k => h.trans k.symm
theorem gdo_det {g : Bool} {p : Prop} {v d : α} : gdo g (det p v) d = det (g = true → p) (if g = true then v else d) := by
  cases g
  · exact (det_true (by simp) _).symm
  · simp [gdo]
theorem gdo_pure {g : Bool} {v d : α} : gdo g (pure v) d = pure (if g = true then v else d) := by cases g <;> rfl
theorem go_next {f : σ → M β} {x : σ} : Step.go f (.next x : Step σ β) = f x := rfl
theorem go_done {f : σ → M β} {r : β} : Step.go f (.done r : Step σ β) = pure r := rfl
end M
def foldS {α β ρ : Type} (f : α → β → Step β ρ) (fin : β → ρ) : List α → β → ρ
  | [], b => fin b
  | x :: l, b => match f x b with
    | .next b' => foldS f fin l b'
    | .done r => r
def Step.mapN {σ β ρ : Type} (g : β → σ) : Step β ρ → Step σ ρ
  | .next b => .next (g b)
  | .done r => .done r
theorem M.loop_list {α β σ ρ : Type} {body : σ → M (Step σ ρ)} {s0 : σ} (l : List α) (mk : Nat → β → σ) (f : α → β → Step β ρ) (fin : β → ρ) (I : Nat → β → Prop) (b : β) (hs0 : s0 = mk 0 b) (h0 : I 0 b)
    (hs : ∀ i (h : i < l.length) b, I i b → body (mk i b) = M.pure (Step.mapN (mk (i + 1)) (f l[i] b)) ∧ ∀ b', f l[i] b = .next b' → I (i + 1) b')
    (hf : ∀ b, I l.length b → body (mk l.length b) = M.pure (.done (fin b))) : M.loop body s0 = M.pure (foldS f fin l b) := by
  subst hs0
  have key : ∀ (k : Nat) (r : List α) (b : β), k ≤ l.length → r = l.drop k → I k b → M.loop body (mk k b) = M.pure (foldS f fin r b) := by
    intro k r
    induction r generalizing k with
    | nil =>
      intro b hk hr hI
      have : k = l.length := by have := congrArg List.length hr; simp at this; omega
      subst this
      exact M.loop_done (hf b hI)
    | cons x r ih =>
      intro b hk hr hI
      have hlt : k < l.length := by
        rcases Nat.lt_or_ge k l.length with h | h
        · exact h
        · rw [List.drop_eq_nil_of_le h] at hr; cases hr
      rw [List.drop_eq_getElem_cons hlt] at hr
      injection hr with hx hr
      obtain ⟨h1, h2⟩ := hs k hlt b hI
      rw [← hx] at h1 h2
      simp only [foldS]
      cases hf' : f x b with
      | next b' =>
        rw [hf'] at h1
        rw [M.loop_next h1]
        exact ih (k + 1) b' hlt hr (h2 b' hf')
      | done r' =>
        rw [hf'] at h1
        exact M.loop_done h1
  exact key 0 l b (Nat.zero_le _) rfl h0
theorem M.loop_listT {α β σ ρ : Type} {body : σ → M (Step σ ρ)} {s0 : σ} (l : List α) (mk : Nat → β → σ) (f : α → β → Step β ρ) (fin : β → ρ) (b : β) (hs0 : s0 = mk 0 b)
    (hs : ∀ i (h : i < l.length) b, body (mk i b) = M.pure (Step.mapN (mk (i + 1)) (f l[i] b)))
    (hf : ∀ b, body (mk l.length b) = M.pure (.done (fin b))) : M.loop body s0 = M.pure (foldS f fin l b) :=
  M.loop_list l mk f fin (fun _ _ => True) b hs0 trivial (fun i h b _ => ⟨hs i h b, fun _ _ => trivial⟩) fun b _ => hf b
section
variable {α β ρ : Type}
theorem foldS_any {p : α → Bool} {r : ρ} {fin : β → ρ} : ∀ (l : List α) (b : β), foldS (fun x b => if p x = true then .done r else .next b) fin l b = if l.any p = true then r else fin b
  | [], b => by simp [foldS]
  | x :: l, b => by
    simp only [foldS, List.any_cons, Bool.or_eq_true]
    by_cases h : p x = true
    · simp [h]
    · have h : p x = false := by simpa using h
      simp only [h, Bool.false_eq_true, if_false, false_or]; exact foldS_any l b
theorem foldS_all {p : α → Bool} {r : ρ} {fin : β → ρ} : ∀ (l : List α) (b : β), foldS (fun x b => if p x = true then .next b else .done r) fin l b = if l.all p = true then fin b else r
  | [], b => by simp [foldS]
  | x :: l, b => by
    simp only [foldS, List.all_cons, Bool.and_eq_true]
    by_cases h : p x = true
    · simp only [h, if_true, true_and]; exact foldS_all l b
    · simp [h]
theorem foldS_next {h : β → α → β} {fin : β → ρ} : ∀ (l : List α) (b : β), foldS (fun x b => .next (h b x)) fin l b = fin (l.foldl h b)
  | [], b => rfl
  | x :: l, b => by simp only [foldS, List.foldl_cons]; exact foldS_next l (h b x)
theorem foldl_filter_app {p : α → Bool} : ∀ (l : List α) (b : List α), l.foldl (fun b x => if p x = true then b ++ [x] else b) b = b ++ l.filter p
  | [], b => by simp
  | x :: l, b => by
    simp only [List.foldl_cons, List.filter_cons]
    rw [foldl_filter_app l]
    split <;> simp
theorem foldl_map_app {γ : Type} {g : α → γ} : ∀ (l : List α) (b : List γ), l.foldl (fun b x => b ++ [g x]) b = b ++ l.map g
  | [], b => by simp
  | x :: l, b => by simp only [List.foldl_cons, List.map_cons]; rw [foldl_map_app l]; simp
end
theorem any_not {α : Type} {p q : α → Bool} (h : ∀ x, p x = !q x) (l : List α) : l.any p = !l.all q := by
  rw [show p = fun x => !q x from funext h, List.not_all_eq_any_not]
theorem foldS_anyN {α β ρ : Type} {p q : α → Bool} {r : ρ} {fin : β → ρ} (l : List α) (b : β) (h : ∀ x, p x = !q x) : foldS (fun x b => if p x = true then .done r else .next b) fin l b = if l.all q = true then fin b else r := by
  rw [foldS_any, any_not h]
  cases l.all q <;> rfl
theorem fin_step {σ β ρ : Type} {c : Bool} {mk : β → σ} {b : β} {r : ρ} : (if c = true then M.pure (Step.done r) else M.pure (Step.next (mk b))) = M.pure (Step.mapN mk (if c = true then .done r else .next b)) := by cases c <;> rfl
theorem fin_step2 {σ β ρ : Type} {c : Bool} {mk : β → σ} {b : β} {r : ρ} : (if c = true then M.pure (Step.done r) else M.pure (Step.next (mk b))) = M.pure (Step.mapN mk (if c = true then .done r else .next b)) := by cases c <;> rfl
theorem lt_len {l : Nat} {i : Nat} (h : i < l) : decide ((i : Int) < (l : Int)) = true := by simpa using h
theorem in_len {l : Nat} {i : Nat} (h : i < l) : ((0 : Int) ≤ (i : Int) ∧ (i : Int) < (l : Int)) = True := by simp; omega
theorem getD_nat {α : Type} {l : List α} {i : Nat} {d : α} (h : i < l.length) : l.getD (Int.toNat (i : Int)) d = l[i] := by
  simp [List.getD_eq_getElem?_getD, h]
theorem getD_mem {α : Type} {l : List α} {i : Int} {d : α} (h0 : 0 ≤ i) (h : i < (l.length : Int)) : l.getD i.toNat d ∈ l := by
  have : i.toNat < l.length := by omega
  simp [List.getD_eq_getElem?_getD, this]
def intR (a b : Int) : List Int := (List.range (b - a + 1).toNat).map fun (i : Nat) => a + (i : Int)
theorem intR_length (a b : Int) : (intR a b).length = (b - a + 1).toNat := by simp [intR]
theorem intR_get {a b : Int} {i : Nat} (h : i < (intR a b).length) : (intR a b)[i] = a + i := by simp [intR]
theorem mem_intR {a b n : Int} : n ∈ intR a b ↔ a ≤ n ∧ n ≤ b := by
  simp only [intR, List.mem_map, List.mem_range]
  constructor
  · rintro ⟨i, h, rfl⟩; omega
  · rintro ⟨h1, h2⟩; exact ⟨(n - a).toNat, by omega, by omega⟩
end Go.Fer
namespace Go.Fer
open M (Step)
set_option linter.unusedVariables false
set_option linter.unusedSimpArgs false
abbrev tI : Ty := .int .i64
abbrev tB : Ty := .bool
abbrev tInts : Ty := .slice tI
abbrev tSpan : Ty := .st (.prod tI tI)
abbrev tSpare : Ty := .st (.prod tI (.prod tI tSpan))
abbrev tSlot : Ty := .st (.prod tI (.prod tInts tSpan))
abbrev tMake : Ty := .st (.slice tSlot)
abbrev tTrial : Ty := .st (.prod tI (.prod tI (.prod tI tI)))
abbrev tW : Ty := .st (.prod (.slice tSpare) (.prod (.slice tMake) (.prod tI (.slice tTrial))))
attribute [simp] or_gdo or_gdo2 and_gdo M.bind_det M.bind_req M.bind_ite M.val_det M.val_pure M.safe_det M.gdo_det M.gdo_pure M.go_next M.go_done add_def add_defN append_def Step.mapN
abbrev fcWithin : FC := ⟨.prod tI (.prod tI tI), tB, fun _ => True, fun x => decide (x.2.1 ≤ x.1) && decide (x.1 ≤ x.2.2)⟩
theorem sWithin (x) : M.le (S_ref07_Within x) (fcWithin.sh x) := M.le_det fun _ => rfl
abbrev fcIn : FC := ⟨.prod tInts tI, tB, fun x => x.1.length < 2 ^ 63, fun x => x.1.contains x.2⟩
theorem any_contains (l : List Int) (n : Int) : (l.any fun y => y == n) = l.contains n := by rw [Bool.eq_iff_iff]; simp
theorem eIn (l : List Int) (n : Int) (h : l.length < 2 ^ 63) : S_ref07_In (l, n) = M.pure (l.contains n) := by
  unfold S_ref07_In
  rw [M.loop_listT l (fun i (_ : Unit) => (l, n, (i : Int), ())) (fun y b => if (y == n) = true then .done (.done true) else .next b) (fun _ => .next ()) () ?_ ?_ ?_]
  · rw [foldS_any, any_contains]
    cases l.contains n <;> simp
  · rfl
  · intro i hi b
    have hw := wrap64 (n := (i : Int) + 1) (by omega) (by omega)
    simp [hi, hw]
    split <;> simp_all
  · intro b
    simp
theorem sIn (x) : M.le (S_ref07_In x) (fcIn.sh x) := M.le_det fun h => eIn x.1 x.2 h
abbrev Spr : Type := Int × Int × Int × Int
abbrev Slt : Type := Int × List Int × Int × Int
abbrev Trl : Type := Int × Int × Int × Int
def smallW (w : Wsh) : Prop := w.1.length < 2 ^ 63 ∧ w.2.1.length < 2 ^ 63 ∧ w.2.2.2.length < 2 ^ 63 ∧ ∀ m ∈ w.2.1, m.length < 2 ^ 63 ∧ ∀ s ∈ m, s.2.1.length < 2 ^ 63
def isSpareV (w : Wsh) (n : Int) : Bool := decide (0 ≤ n) && decide (n < (w.1.length : Int))
def isMakeV (w : Wsh) (n : Int) : Bool := decide (0 ≤ n) && decide (n < (w.2.1.length : Int))
def slotsOfV (w : Wsh) (m : Int) : List Slt := w.2.1.getD m.toNat []
def isSlotOfV (w : Wsh) (m k : Int) : Bool := isMakeV w m && (decide (0 ≤ k) && decide (k < ((slotsOfV w m).length : Int)))
theorem isSpareV_iff {w : Wsh} {n : Int} : isSpareV w n = true ↔ 0 ≤ n ∧ n < (w.1.length : Int) := by simp [isSpareV]
theorem isMakeV_iff {w : Wsh} {n : Int} : isMakeV w n = true ↔ 0 ≤ n ∧ n < (w.2.1.length : Int) := by simp [isMakeV]
theorem isSlotOfV_iff {w : Wsh} {m k : Int} : isSlotOfV w m k = true ↔ (0 ≤ m ∧ m < (w.2.1.length : Int)) ∧ 0 ≤ k ∧ k < ((slotsOfV w m).length : Int) := by simp [isSlotOfV, isMakeV]
theorem slots_small {w : Wsh} (hw : smallW w) (m : Int) : (slotsOfV w m).length < 2 ^ 63 := by
  unfold slotsOfV
  rw [List.getD_eq_getElem?_getD]
  cases h : w.2.1[m.toNat]? with
  | none => simp
  | some x => exact (hw.2.2.2 x (List.mem_of_getElem? h)).1
theorem le_pred (n m : Int) : decide (n ≤ m - 1) = decide (n < m) := by
  rw [decide_eq_decide]; omega
abbrev fcIsSpare : FC := ⟨.prod tW tI, tB, fun x => smallW x.1, fun x => isSpareV x.1 x.2⟩
theorem eIsSpare (w : Wsh) (n : Int) (h : smallW w) : S_ref07_IsSpare fcWithin.sh (w, n) = M.pure (isSpareV w n) := by
  unfold S_ref07_IsSpare
  have hl := h.1
  have hw := wrap64 (n := (w.1.length : Int) - 1) (by omega) (by omega)
  simp [FC.sh, fcWithin, hw, isSpareV, le_pred]
theorem sIsSpare (x) : M.le (S_ref07_IsSpare fcWithin.sh x) (fcIsSpare.sh x) := M.le_det fun h => eIsSpare x.1 x.2 h
abbrev fcIsMake : FC := ⟨.prod tW tI, tB, fun x => smallW x.1, fun x => isMakeV x.1 x.2⟩
theorem eIsMake (w : Wsh) (n : Int) (h : smallW w) : S_ref07_IsMake fcWithin.sh (w, n) = M.pure (isMakeV w n) := by
  unfold S_ref07_IsMake
  have hl := h.2.1
  have hw := wrap64 (n := (w.2.1.length : Int) - 1) (by omega) (by omega)
  simp [FC.sh, fcWithin, hw, isMakeV, le_pred]
theorem sIsMake (x) : M.le (S_ref07_IsMake fcWithin.sh x) (fcIsMake.sh x) := M.le_det fun h => eIsMake x.1 x.2 h
abbrev fcIsSlotOf : FC := ⟨.prod tW (.prod tI tI), tB, fun x => smallW x.1, fun x => isSlotOfV x.1 x.2.1 x.2.2⟩
theorem eIsSlotOf (w : Wsh) (m k : Int) (h : smallW w) : S_ref07_IsSlotOf fcWithin.sh fcIsMake.sh (w, m, k) = M.pure (isSlotOfV w m k) := by
  unfold S_ref07_IsSlotOf
  have hl := slots_small h m
  have hw := wrap64 (n := ((slotsOfV w m).length : Int) - 1) (by omega) (by omega)
  unfold slotsOfV at hw
  simp only [FC.sh, fcWithin, fcIsMake, M.bind_det, M.gdo_det, ofNat_def, hw, le_pred, M.req_true h]
  rw [M.req_true, M.req_true (by simp)]
  · simp only [isSlotOfV, slotsOfV]
    cases isMakeV w m <;> simp
  · intro hm
    exact ⟨⟨hm, hm⟩, isMakeV_iff.1 hm, trivial⟩
theorem sIsSlotOf (x) : M.le (S_ref07_IsSlotOf fcWithin.sh fcIsMake.sh x) (fcIsSlotOf.sh x) := M.le_det fun h => eIsSlotOf x.1 x.2.1 x.2.2 h
def isLengthV (s : Int × Int) : Bool := (decide (0 ≤ s.1) && decide (s.1 ≤ s.2)) && decide (s.2 ≤ 999)
abbrev fcIsLength : FC := ⟨tSpan, tB, fun _ => True, isLengthV⟩
theorem eIsLength (s : Int × Int) : S_ref07_isLength fcWithin.sh s = M.pure (isLengthV s) := by
  unfold S_ref07_isLength
  simp [FC.sh, fcWithin, isLengthV]
theorem sIsLength (x) : M.le (S_ref07_isLength fcWithin.sh x) (fcIsLength.sh x) := M.le_det fun _ => eIsLength x
def ascV (l : List Int) : Bool := (List.range (l.length - 1)).all fun i => decide (l.getD i 0 < l.getD (i + 1) 0)
abbrev fcAscending : FC := ⟨tInts, tB, fun x => x.length < 2 ^ 63, ascV⟩
theorem eAscending (l : List Int) (h : l.length < 2 ^ 63) : S_ref07_Ascending l = M.pure (ascV l) := by
  unfold S_ref07_Ascending
  rw [M.loop_listT (List.range (l.length - 1)) (fun i (_ : Unit) => (l, ((i + 1 : Nat) : Int), ())) (fun i b => if (decide (l.getD i 0 < l.getD (i + 1) 0)) = true then .next b else .done (.done false)) (fun _ => .next ()) () ?_ ?_ ?_]
  · rw [foldS_all]
    unfold ascV
    cases (List.range (l.length - 1)).all fun i => decide (l.getD i 0 < l.getD (i + 1) 0) <;> simp
  · simp
  · intro i hi b
    have hi' : i + 1 < l.length := by simp at hi; omega
    have hw := wrap64 (n := (i : Int) + 1 + 1) (by omega) (by omega)
    have hw2 := wrap64 (n := (i : Int) + 1 - 1) (by omega) (by omega)
    have e1 : ((i : Int) + 1).toNat = i + 1 := by omega
    have e2 : ((i : Int) + 1 - 1).toNat = i := by omega
    have r1 : (0 : Int) ≤ (i : Int) + 1 ∧ (i : Int) + 1 < (l.length : Int) := by omega
    have r2 : (0 : Int) ≤ (i : Int) + 1 - 1 ∧ (i : Int) + 1 - 1 < (l.length : Int) := by omega
    simp only [ofNat_def, Int.natCast_add, Int.cast_ofNat_Int, hw, hw2, r1, r2, M.req_true, e1, e2, add_def, List.getElem_range, decide_eq_true_eq, if_true, M.bind_pure, decide_true, and_self, Int.natCast_one]
    generalize l.getD i 0 = A
    generalize l.getD (i + 1) 0 = B
    by_cases hc : A < B
    · simp [hc, Int.not_le.2 hc]
    · simp [hc, Int.not_lt.1 hc]
  · intro b
    have : ¬ (((List.range (l.length - 1)).length : Int) + 1 < (l.length : Int)) := by simp; omega
    simp [this]
    omega
theorem sAscending (x) : M.le (S_ref07_Ascending x) (fcAscending.sh x) := M.le_det fun h => eAscending x h
end Go.Fer
namespace Go.Fer
open M (Step)
set_option linter.unusedVariables false
set_option linter.unusedSimpArgs false
def markV (n : Int) : Bool := decide (0 ≤ n) && decide (n ≤ 9)
def slotV (s : Slt) : Bool := s.2.1.all markV && (markV s.1 && decide ((s.2.1.length : Int) ≤ 4) && ascV s.2.1 && isLengthV s.2.2)
def spareV (s : Spr) : Bool := markV s.1 && markV s.2.1 && isLengthV s.2.2
def trialV (w : Wsh) (t : Trl) : Bool := isSpareV w t.1 && isSlotOfV w t.2.1 t.2.2.1 && (decide (0 ≤ t.2.2.2) && decide (t.2.2.2 ≤ 1))
def makeV (m : List Slt) : Bool := !decide ((m.length : Int) > 4) && m.all slotV
def headV (w : Wsh) : Bool := !(decide ((w.1.length : Int) > 10) || decide ((w.2.1.length : Int) > 6) || !(decide (0 ≤ w.2.2.1) && decide (w.2.2.1 ≤ 99)) || decide ((w.2.2.2.length : Int) > 30))
def wV (w : Wsh) : Bool := headV w && w.1.all spareV && w.2.1.all makeV && w.2.2.2.all (trialV w)
abbrev fcIsSlot : FC := ⟨tSlot, tB, fun x => x.2.1.length < 2 ^ 63, slotV⟩
theorem eIsSlot (s : Slt) (h : s.2.1.length < 2 ^ 63) : S_ref07_isSlot fcAscending.sh fcWithin.sh fcIsLength.sh s = M.pure (slotV s) := by
  unfold S_ref07_isSlot
  rw [M.loop_listT s.2.1 (fun i (_ : Unit) => ((i : Int), s, ())) (fun n b => if markV n = true then .next b else .done (.done false)) (fun _ => .next (s, ())) () ?_ ?_ ?_]
  · rw [foldS_all]
    unfold slotV
    cases s.2.1.all markV with
    | false => simp
    | true =>
      simp only [FC.sh, fcWithin, fcAscending, fcIsLength, M.req_true h, markV, if_true, M.bind_pure, M.go_next, M.bind_det, M.gdo_det, M.req_True, ofNat_def, h, implies_true, Bool.true_and]
      congr 1
      cases decide (0 ≤ s.1) <;> cases decide (s.1 ≤ 9) <;> cases decide ((s.2.1.length : Int) ≤ 4) <;> cases ascV s.2.1 <;> simp
  · rfl
  · intro i hi b
    have hw := wrap64 (n := (i : Int) + 1) (by omega) (by omega)
    simp [FC.sh, fcWithin, hi, hw, markV]
    grind
  · intro b
    simp
theorem sIsSlot (x) : M.le (S_ref07_isSlot fcAscending.sh fcWithin.sh fcIsLength.sh x) (fcIsSlot.sh x) := M.le_det fun h => eIsSlot x h
abbrev fcIsWorkshop : FC := ⟨tW, tB, smallW, wV⟩
theorem eIsWorkshop (w : Wsh) (h : smallW w) : S_ref07_isWorkshop fcIsSpare.sh fcIsSlotOf.sh fcWithin.sh fcIsLength.sh fcIsSlot.sh w = M.pure (wV w) := by
  have hs := h
  obtain ⟨h1, h2, h3, h4⟩ := h
  unfold S_ref07_isWorkshop
  simp only [FC.sh, fcWithin, M.gdo_det, M.bind_det, implies_true, M.req_True, ofNat_def, or_gdo]
  split
  · rename_i hc
    have : headV w = false := by unfold headV; grind
    simp [wV, this]
  · rename_i hc
    have hh : headV w = true := by unfold headV; grind
    have hl4 : w.2.1.length ≤ 6 := by simp [headV] at hh; omega
    rw [M.loop_listT w.1 (fun i (_ : Unit) => ((i : Int), w, ())) (fun n b => if (!markV n.1 || !markV n.2.1 || !isLengthV n.2.2) = true then .done (.done false) else .next b) (fun _ => .next (w, ())) () ?_ ?_ ?_]
    · rw [foldS_anyN (q := spareV) _ _ (fun t => by simp only [spareV, Bool.not_and])]
      cases hA : w.1.all spareV with
      | false => simp [wV, hA]
      | true =>
        simp only [M.bind_pure, if_true, M.go_next]
        rw [M.loop_listT w.2.1 (fun i (_ : Unit) => ((i : Int), w, ())) (fun m b => if makeV m = true then .next b else .done (.done false)) (fun _ => .next (w, ())) () ?_ ?_ ?_]
        · rw [foldS_all]
          cases hB : w.2.1.all makeV with
          | false => simp [wV, hB]
          | true =>
            simp only [M.bind_pure, if_true, M.go_next]
            rw [M.loop_listT w.2.2.2 (fun i (_ : Unit) => ((i : Int), w, ())) (fun t b => if (!isSpareV w t.1 || !isSlotOfV w t.2.1 t.2.2.1 || !(decide (0 ≤ t.2.2.2) && decide (t.2.2.2 ≤ 1))) = true then .done (.done false) else .next b) (fun _ => .next ()) () ?_ ?_ ?_]
            · rw [foldS_anyN (q := trialV w) _ _ (fun t => by simp only [trialV, Bool.not_and])]
              cases hC : w.2.2.2.all (trialV w) <;> simp [wV, hA, hB, hC, hh]
            · rfl
            · intro i hi b
              have hw := wrap64 (n := (i : Int) + 1) (by omega) (by omega)
              simp only [ofNat_def, lt_len hi, if_true, getD_nat hi, in_len hi, M.req_True, FC.sh, fcIsSpare, fcIsSlotOf, M.bind_det, M.gdo_det, hs, implies_true, or_gdo, M.bind_pure, add_def, hw]
              exact fin_step (mk := fun _ : Unit => ((i : Int) + 1, w, ()))
            · intro b
              simp
        · rfl
        · intro i hi b
          have hw := wrap64 (n := (i : Int) + 1) (by omega) (by omega)
          obtain ⟨hm1, hm2⟩ := h4 w.2.1[i] (List.getElem_mem hi)
          simp only [ofNat_def, Int.ofNat_lt, hi, decide_true, if_true, getD_nat hi, Int.natCast_nonneg, and_self, M.req_True]
          by_cases hlen : (w.2.1[i].length : Int) > 4
          · simp [hlen, makeV]
          · simp only [hlen, decide_false, Bool.false_eq_true, if_false]
            rw [M.loop_listT w.2.1[i] (fun k (_ : Unit) => ((i : Int), (k : Int), w, ())) (fun s b => if (!slotV s) = true then .done (.done (.done (.done false))) else .next b) (fun _ => .next ((i : Int), w, ())) () ?_ ?_ ?_]
            · rw [foldS_anyN (q := slotV) _ _ (fun _ => rfl)]
              cases hD : w.2.1[i].all slotV <;> simp [makeV, hD, hlen, hw]
            · rfl
            · intro k hk b
              have hwk := wrap64 (n := (k : Int) + 1) (by omega) (by omega)
              have hsm := hm2 w.2.1[i][k] (List.getElem_mem hk)
              simp only [ofNat_def, lt_len hk, lt_len hi, if_true, getD_nat hi, getD_nat hk, in_len hi, in_len hk, M.req_True, fcIsSlot, M.bind_det, hsm, M.req_true hsm, M.bind_pure, add_def, hwk]
              exact fin_step (mk := fun _ : Unit => ((i : Int), (k : Int) + 1, w, ()))
            · intro b
              simp [hi]
        · intro b
          simp
    · rfl
    · intro i hi b
      have hw := wrap64 (n := (i : Int) + 1) (by omega) (by omega)
      simp only [ofNat_def, lt_len hi, if_true, getD_nat hi, in_len hi, M.req_True, FC.sh, fcIsLength, M.bind_det, M.gdo_det, implies_true, or_gdo, M.bind_pure, add_def, hw, Bool.not_not]
      exact fin_step (mk := fun _ : Unit => ((i : Int) + 1, w, ()))
    · intro b
      simp
theorem sIsWorkshop (x) : M.le (S_ref07_isWorkshop fcIsSpare.sh fcIsSlotOf.sh fcWithin.sh fcIsLength.sh fcIsSlot.sh x) (fcIsWorkshop.sh x) := M.le_det fun h => eIsWorkshop x h
end Go.Fer
namespace Go.Fer
open M (Step)
set_option linter.unusedVariables false
set_option linter.unusedSimpArgs false
abbrev dTrl : Trl := (0, 0, 0, 0)
def clash (a b : Trl) : Bool := decide (a.1 = b.1) && decide (a.2.1 = b.2.1) && decide (a.2.2.1 = b.2.2.1) && decide (a.2.2.2 ≠ b.2.2.2)
def tabOk (l : List Trl) : Bool := (List.range l.length).all fun i => (List.range i).all fun k => !clash (l.getD k dTrl) (l.getD i dTrl)
def checkV (w : Wsh) : Int := if wV w = true then (if tabOk w.2.2.2 = true then 0 else 71) else 70
theorem nat_in {a b : Nat} (h : a < b) : ((0 : Int) ≤ (a : Int) ∧ (a : Int) < (b : Int)) = True := in_len h
abbrev fcCheck : FC := ⟨tW, tI, smallW, checkV⟩
theorem eCheck (w : Wsh) (h : smallW w) : S_ref07_Check fcIsWorkshop.sh w = M.pure (checkV w) := by
  have hs := h
  obtain ⟨h1, h2, h3, h4⟩ := h
  unfold S_ref07_Check
  simp only [FC.sh, fcIsWorkshop, M.bind_det, M.req_true hs]
  unfold checkV
  cases hw : wV w with
  | false => simp
  | true =>
    simp only [Bool.not_true, Bool.false_eq_true, if_false, if_true]
    rw [M.loop_listT (List.range w.2.2.2.length) (fun i (_ : Unit) => ((i : Int), w, ())) (fun i b => if (List.range i).any (fun k => clash (w.2.2.2.getD k dTrl) (w.2.2.2.getD i dTrl)) = true then .done (.done (71 : Int)) else .next b) (fun _ => .next ()) () ?_ ?_ ?_]
    · rw [foldS_anyN (q := fun i => (List.range i).all fun k => !clash (w.2.2.2.getD k dTrl) (w.2.2.2.getD i dTrl)) _ _ (fun i => any_not (fun k => by simp) _)]
      have e : ((List.range w.2.2.2.length).all fun i => (List.range i).all fun k => !clash (w.2.2.2.getD k dTrl) (w.2.2.2.getD i dTrl)) = tabOk w.2.2.2 := rfl
      rw [e]
      cases tabOk w.2.2.2 <;> simp
    · rfl
    · intro i hi b
      have hi : i < w.2.2.2.length := by simpa using hi
      have hwr := wrap64 (n := (i : Int) + 1) (by omega) (by omega)
      simp only [ofNat_def, lt_len hi, if_true, List.getElem_range]
      rw [M.loop_listT (List.range i) (fun k (_ : Unit) => ((i : Int), (k : Int), w, ())) (fun k b => if clash (w.2.2.2.getD k dTrl) (w.2.2.2.getD i dTrl) = true then .done (.done (.done (.done (71 : Int)))) else .next b) (fun _ => .next ((i : Int), w, ())) () ?_ ?_ ?_]
      · rw [foldS_any]
        cases (List.range i).any (fun k => clash (w.2.2.2.getD k dTrl) (w.2.2.2.getD i dTrl)) <;> simp [hwr]
      · rfl
      · intro k hk b
        have hk : k < i := by simpa using hk
        have hk2 : k < w.2.2.2.length := by omega
        have hwk := wrap64 (n := (k : Int) + 1) (by omega) (by omega)
        simp only [lt_len hk, if_true, List.getElem_range, nat_in hk2, nat_in hi, M.req_True, Int.toNat_natCast, M.bind_pure, add_def, hwk]
        exact fin_step (mk := fun _ : Unit => ((i : Int), (k : Int) + 1, w, ()))
      · intro b
        simp
    · intro b
      simp
theorem sCheck (x) : M.le (S_ref07_Check fcIsWorkshop.sh x) (fcCheck.sh x) := M.le_det fun h => eCheck x h
def spareAt (w : Wsh) (i : Int) : Spr := w.1.getD i.toNat (0, 0, 0, 0)
def slotAt (w : Wsh) (m k : Int) : Slt := (slotsOfV w m).getD k.toNat (0, [], 0, 0)
theorem spareAt_mem {w : Wsh} {i : Int} (h : isSpareV w i = true) : spareAt w i ∈ w.1 := by
  rw [isSpareV_iff] at h
  exact getD_mem h.1 h.2
theorem slotsOf_mem {w : Wsh} {m k : Int} (h : isSlotOfV w m k = true) : slotsOfV w m ∈ w.2.1 := by
  rw [isSlotOfV_iff] at h
  exact getD_mem h.1.1 h.1.2
theorem slotAt_mem {w : Wsh} {m k : Int} (h : isSlotOfV w m k = true) : slotAt w m k ∈ slotsOfV w m := by
  rw [isSlotOfV_iff] at h
  exact getD_mem h.2.1 h.2.2
theorem wV_split {w : Wsh} (h : wV w = true) : headV w = true ∧ (∀ s ∈ w.1, spareV s = true) ∧ (∀ m ∈ w.2.1, makeV m = true) ∧ ∀ t ∈ w.2.2.2, trialV w t = true := by
  simp only [wV, Bool.and_eq_true, List.all_eq_true] at h
  exact ⟨h.1.1.1, h.1.1.2, h.1.2, h.2⟩
theorem wV_head {w : Wsh} (h : wV w = true) : w.1.length ≤ 10 ∧ w.2.1.length ≤ 6 ∧ (0 ≤ w.2.2.1 ∧ w.2.2.1 ≤ 99) ∧ w.2.2.2.length ≤ 30 := by
  have := (wV_split h).1
  simp [headV] at this
  omega
theorem wV_slot {w : Wsh} (h : wV w = true) {m k : Int} (hm : isSlotOfV w m k = true) : slotV (slotAt w m k) = true := by
  have := (wV_split h).2.2.1 _ (slotsOf_mem hm)
  simp only [makeV, Bool.and_eq_true, List.all_eq_true] at this
  exact this.2 _ (slotAt_mem hm)
theorem slotV_len {s : Slt} (h : slotV s = true) : 0 ≤ s.2.2.1 ∧ s.2.2.1 ≤ s.2.2.2 ∧ s.2.2.2 ≤ 999 := by
  simp only [slotV, isLengthV, Bool.and_eq_true, decide_eq_true_eq] at h
  omega
theorem wV_spare {w : Wsh} (h : wV w = true) {i : Int} (hi : isSpareV w i = true) : 0 ≤ (spareAt w i).2.2.1 ∧ (spareAt w i).2.2.1 ≤ (spareAt w i).2.2.2 ∧ (spareAt w i).2.2.2 ≤ 999 := by
  have := (wV_split h).2.1 _ (spareAt_mem hi)
  simp only [spareV, isLengthV, Bool.and_eq_true, decide_eq_true_eq] at this
  omega
theorem wV_trial {w : Wsh} (h : wV w = true) {t : Trl} (ht : t ∈ w.2.2.2) : isSpareV w t.1 = true ∧ isSlotOfV w t.2.1 t.2.2.1 = true := by
  have := (wV_split h).2.2.2 _ ht
  simp only [trialV, Bool.and_eq_true] at this
  exact this.1
def fitsAt (w : Wsh) (i n m k : Int) : Bool :=
  decide ((spareAt w i).1 = (slotAt w m k).1) && (slotAt w m k).2.1.contains (spareAt w i).2.1 && (decide ((slotAt w m k).2.2.1 ≤ n) && decide (n ≤ (slotAt w m k).2.2.2 + w.2.2.1))
def goodW (w : Wsh) : Prop := smallW w ∧ wV w = true
abbrev fcFitsAt : FC := ⟨.prod tW (.prod tI (.prod tI (.prod tI tI))), tB, fun x => goodW x.1 ∧ isSpareV x.1 x.2.1 = true ∧ isSlotOfV x.1 x.2.2.2.1 x.2.2.2.2 = true, fun x => fitsAt x.1 x.2.1 x.2.2.1 x.2.2.2.1 x.2.2.2.2⟩
theorem eFitsAt (w : Wsh) (i n m k : Int) (hw : goodW w) (hi : isSpareV w i = true) (hm : isSlotOfV w m k = true) : S_ref07_FitsAt fcIn.sh fcWithin.sh (w, i, n, m, k) = M.pure (fitsAt w i n m k) := by
  unfold S_ref07_FitsAt
  have r1 := isSpareV_iff.1 hi
  have r2 := isSlotOfV_iff.1 hm
  have hsl := slotV_len (wV_slot hw.2 hm)
  have hcut := (wV_head hw.2).2.2.1
  have hsm : (slotAt w m k).2.1.length < 2 ^ 63 := (hw.1.2.2.2 _ (slotsOf_mem hm)).2 _ (slotAt_mem hm)
  have hwr := wrap64 (n := (slotAt w m k).2.2.2 + w.2.2.1) (by omega) (by omega)
  unfold fitsAt
  simp only [slotAt, slotsOfV, spareAt] at *
  simp only [FC.sh, fcIn, fcWithin, M.gdo_det, M.bind_det, ofNat_def, r1, r2, and_self, M.req_True, implies_true, add_def, hwr, and_gdo, M.req_true (fun _ => hsm), hsm]
  rfl
theorem sFitsAt (x) : M.le (S_ref07_FitsAt fcIn.sh fcWithin.sh x) (fcFitsAt.sh x) := M.le_det fun h => eFitsAt x.1 x.2.1 x.2.2.1 x.2.2.2.1 x.2.2.2.2 h.1 h.2.1 h.2.2
def bears (w : Wsh) (i n : Int) (t : Trl) : Bool := !(decide (t.1 = i) && !decide (fitsAt w i n t.2.1 t.2.2.1 = decide (t.2.2.2 = 1)))
def canBe (w : Wsh) (i n : Int) : Bool := w.2.2.2.all (bears w i n) && (decide ((spareAt w i).2.2.1 ≤ n) && decide (n ≤ (spareAt w i).2.2.2))
abbrev fcCanBe : FC := ⟨.prod tW (.prod tI tI), tB, fun x => goodW x.1 ∧ isSpareV x.1 x.2.1 = true, fun x => canBe x.1 x.2.1 x.2.2⟩
theorem eCanBe (w : Wsh) (i n : Int) (hw : goodW w) (hi : isSpareV w i = true) : S_ref07_CanBe fcFitsAt.sh fcWithin.sh (w, i, n) = M.pure (canBe w i n) := by
  unfold S_ref07_CanBe
  have r1 := isSpareV_iff.1 hi
  have hl := (wV_head hw.2).2.2.2
  rw [M.loop_listT w.2.2.2 (fun j (_ : Unit) => (i, n, (j : Int), w, ())) (fun t b => if (decide (t.1 = i) && !decide (fitsAt w i n t.2.1 t.2.2.1 = decide (t.2.2.2 = 1))) = true then .done (.done false) else .next b) (fun _ => .next (i, n, w, ())) () ?_ ?_ ?_]
  · rw [foldS_anyN (q := bears w i n) _ _ (fun t => by simp only [bears, Bool.not_not])]
    unfold canBe
    cases w.2.2.2.all (bears w i n) with
    | false => simp
    | true => simp only [if_true, M.bind_pure, M.go_next, FC.sh, fcWithin, M.safe_det, M.val_det, ofNat_def, r1, and_self, M.req_True, Bool.true_and, spareAt]; rfl
  · rfl
  · intro j hj b
    have hwr := wrap64 (n := (j : Int) + 1) (by omega) (by omega)
    have ht := wV_trial hw.2 (List.getElem_mem hj)
    have hp : decide (w.2.2.2[j].1 = i) = true → (goodW w ∧ isSpareV w i = true ∧ isSlotOfV w w.2.2.2[j].2.1 w.2.2.2[j].2.2.1 = true) := fun _ => ⟨hw, hi, ht.2⟩
    simp only [ofNat_def, lt_len hj, if_true, getD_nat hj, in_len hj, M.req_True, FC.sh, fcFitsAt, M.safe_det, M.val_det, M.bind_pure, add_def, hwr, and_true, true_and, and_self, implies_true, imp_self]
    rw [M.req_true (fun h => ⟨h, hp h⟩)]
    exact fin_step (mk := fun _ : Unit => (i, n, (j : Int) + 1, w, ()))
  · intro b
    simp
theorem sCanBe (x) : M.le (S_ref07_CanBe fcFitsAt.sh fcWithin.sh x) (fcCanBe.sh x) := M.le_det fun h => eCanBe x.1 x.2.1 x.2.2 h.1 h.2
def lens (w : Wsh) (i : Int) : List Int := (intR (spareAt w i).2.2.1 (spareAt w i).2.2.2).filter (canBe w i)
theorem lens_len {w : Wsh} {i : Int} (hw : goodW w) (hi : isSpareV w i = true) : (lens w i).length ≤ 1000 := by
  have := wV_spare hw.2 hi
  have h2 := List.length_filter_le (canBe w i) (intR (spareAt w i).2.2.1 (spareAt w i).2.2.2)
  rw [intR_length] at h2
  unfold lens
  omega
abbrev fcAll : FC := ⟨.prod tW tI, tInts, fun x => goodW x.1 ∧ isSpareV x.1 x.2 = true, fun x => lens x.1 x.2⟩
theorem eAll (w : Wsh) (i : Int) (hw : goodW w) (hi : isSpareV w i = true) : S_ref07_all fcCanBe.sh (w, i) = M.pure (lens w i) := by
  unfold S_ref07_all
  have r1 := isSpareV_iff.1 hi
  have hl := wV_spare hw.2 hi
  simp only [ofNat_def, r1, and_self, M.req_True]
  rw [M.loop_list (intR (spareAt w i).2.2.1 (spareAt w i).2.2.2) (fun k (l : List Int) => (i, (spareAt w i).2.2.1 + (k : Int), w, l, ())) (fun n l => .next (if canBe w i n = true then l ++ [n] else l)) (fun l => .next (l, ())) (fun k l => l.length ≤ k) [] ?_ ?_ ?_ ?_]
  · rw [foldS_next, foldl_filter_app]
    simp only [M.bind_pure, M.go_next, List.nil_append]
    rfl
  · simp [spareAt]
  · simp
  · intro k hk l hkl
    have hk2 : k < 1000 := by rw [intR_length] at hk; omega
    have hlo : (spareAt w i).2.2.1 + (k : Int) ≤ (spareAt w i).2.2.2 := by rw [intR_length] at hk; omega
    have hwr := wrap64 (n := (spareAt w i).2.2.1 + (k : Int) + 1) (by omega) (by omega)
    have hwr2 := wrap64 (n := (spareAt w i).2.2.1 + ((k : Int) + 1)) (by omega) (by omega)
    refine ⟨?_, fun b' hb => ?_⟩
    · have hg : List.getD w.1 i.toNat (0, 0, 0, 0) = spareAt w i := rfl
      have hll : lenLe (l.length + (0 + 1)) := by unfold lenLe; omega
      have e1 : (((k + 1 : Nat) : Int)) = (k : Int) + 1 := by omega
      simp only [r1, and_self, M.req_True, hg, hlo, decide_true, if_true, FC.sh, fcCanBe, M.bind_det, hw, hi, intR_get, add_def, add_defN, append_def, M.req_true hll]
      cases canBe w i ((spareAt w i).2.2.1 + (k : Int)) <;> simp [hwr2, Int.add_assoc]
    · cases hb
      split <;> (try simp only [List.length_append, List.length_singleton]) <;> omega
  · intro l hkl
    have hg : List.getD w.1 i.toNat (0, 0, 0, 0) = spareAt w i := rfl
    have : ¬ (spareAt w i).2.2.1 + ((intR (spareAt w i).2.2.1 (spareAt w i).2.2.2).length : Int) ≤ (spareAt w i).2.2.2 := by rw [intR_length]; omega
    simp only [r1, and_self, M.req_True, hg, this, decide_false, Bool.false_eq_true, if_false, M.bind_pure]
theorem sAll (x) : M.le (S_ref07_all fcCanBe.sh x) (fcAll.sh x) := M.le_det fun h => eAll x.1 x.2 h.1 h.2
theorem isSpareV_nat {w : Wsh} {i : Nat} (h : i < w.1.length) : isSpareV w (i : Int) = true := by rw [isSpareV_iff]; omega
def hasTruth (w : Wsh) : Bool := (List.range w.1.length).all fun i => !decide (((lens w (i : Int)).length : Int) = 0)
def knownV (w : Wsh) (is : Bool) : Int := if checkV w ≠ 0 then checkV w else if is = false then 1 else if hasTruth w = true then 0 else 3
theorem wV_of_check {w : Wsh} (h : checkV w = 0) : wV w = true := by
  unfold checkV at h
  split at h
  · assumption
  · cases h
abbrev fcKnown0 : FC := ⟨.prod tW tB, tI, fun x => smallW x.1, fun x => knownV x.1 x.2⟩
theorem eKnown0 (w : Wsh) (is : Bool) (h : smallW w) : S_ref07_known fcCheck.sh fcAll.sh (w, is) = M.pure (knownV w is) := by
  unfold S_ref07_known knownV
  simp only [FC.sh, fcCheck, M.bind_det, M.req_true h]
  by_cases hc : checkV w = 0
  · have hw : goodW w := ⟨h, wV_of_check hc⟩
    have hhd := wV_head hw.2
    simp only [hc, ne_eq, not_true, decide_false, Bool.false_eq_true, if_false]
    cases is with
    | false => simp
    | true =>
      simp only [Bool.not_true, Bool.false_eq_true, if_false, Bool.true_eq_false]
      rw [M.loop_listT (List.range w.1.length) (fun i (_ : Unit) => ((i : Int), w, ())) (fun i b => if decide (((lens w (i : Int)).length : Int) = 0) = true then .done (.done (3 : Int)) else .next b) (fun _ => .next ()) () ?_ ?_ ?_]
      · rw [foldS_anyN (q := fun (i : Nat) => !decide (((lens w (i : Int)).length : Int) = 0)) _ _ (fun i => by simp)]
        have e : ((List.range w.1.length).all fun (i : Nat) => !decide (((lens w (i : Int)).length : Int) = 0)) = hasTruth w := rfl
        rw [e]
        cases hasTruth w <;> simp
      · rfl
      · intro i hi b
        have hi : i < w.1.length := by simpa using hi
        have hwr := wrap64 (n := (i : Int) + 1) (by omega) (by omega)
        simp only [ofNat_def, lt_len hi, if_true, List.getElem_range, fcAll, hw, isSpareV_nat hi, and_self, M.bind_det, M.req_True, M.bind_pure, add_def, hwr]
        exact fin_step (mk := fun _ : Unit => ((i : Int) + 1, w, ()))
      · intro b
        simp
  · simp [hc]
theorem sKnown0 (x) : M.le (S_ref07_known fcCheck.sh fcAll.sh x) (fcKnown0.sh x) := M.le_det fun h => eKnown0 x.1 x.2 h
abbrev fcKnown : FC := ⟨tW, tI, smallW, fun w => knownV w true⟩
theorem sKnown (x) : M.le (S_ref07_Known fcKnown0.sh x) (fcKnown.sh x) := M.le_det fun h => by
  unfold S_ref07_Known
  simp only [FC.sh, fcKnown0, M.bind_det, M.req_true (show smallW x from h), fcKnown]
theorem knownV_0 {w : Wsh} {is : Bool} (h : knownV w is = 0) : checkV w = 0 ∧ is = true ∧ hasTruth w = true := by
  unfold knownV at h
  by_cases hc : checkV w = 0
  · cases is <;> simp [hc] at h ⊢
    exact h
  · simp [hc] at h
theorem good_of_known {w : Wsh} {is : Bool} (hs : smallW w) (h : knownV w is = 0) : goodW w := ⟨hs, wV_of_check (knownV_0 h).1⟩
theorem lens_pos {w : Wsh} (h : hasTruth w = true) {i : Int} (hi : isSpareV w i = true) : 0 < (lens w i).length := by
  rw [isSpareV_iff] at hi
  have := List.all_eq_true.1 h i.toNat (by simp; omega)
  simp only [Bool.not_eq_true', decide_eq_false_iff_not] at this
  rw [Int.toNat_of_nonneg hi.1] at this
  omega
def lengthV (w : Wsh) (i : Int) : (Int × Int) × Int := if knownV w (isSpareV w i) ≠ 0 then ((0, 0), knownV w (isSpareV w i)) else (((lens w i).getD 0 0, (lens w i).getD ((lens w i).length - 1) 0), 0)
abbrev fcLength : FC := ⟨.prod tW tI, .prod tSpan tI, fun x => smallW x.1, fun x => lengthV x.1 x.2⟩
def isV (some many : Int) : Int := if some = many then 1 else if some = 0 then 2 else 3
abbrev fcIs : FC := ⟨.prod tI tI, tI, fun _ => True, fun x => isV x.1 x.2⟩
theorem foldl_count {α : Type} {p : α → Bool} : ∀ (l : List α) (n : Int), l.foldl (fun n x => if p x = true then n + 1 else n) n = n + (l.countP p : Int)
  | [], n => by simp
  | x :: l, n => by
    simp only [List.foldl_cons, List.countP_cons]
    rw [foldl_count l]
    split <;> simp <;> omega
def fitsV (w : Wsh) (i m k : Int) : Int := isV ((lens w i).countP fun n => fitsAt w i n m k : Int) ((lens w i).length : Int)
end Go.Fer
namespace Go.Fer
open M (Step)
set_option linter.unusedVariables false
set_option linter.unusedSimpArgs false
section
variable {α : Type}
noncomputable def G_IndexFunc (d : α) (x : List α × (α → M Bool)) : M Int :=
  M.bind (M.loop (fun (σ : List α × (α → M Bool) × Int × Int × Unit) => if decide (σ.2.2.2.1 < σ.2.2.1) = true then M.req (0 ≤ σ.2.2.2.1 ∧
  σ.2.2.2.1 < Int.ofNat (List.length σ.1)) (M.bind (σ.2.1 (List.getD σ.1 (Int.toNat σ.2.2.2.1) d)) fun y => if y = true then M.bind (M.bind (M.pure
  σ.2.2.2.1) fun r => M.pure (Step.done r)) fun r => M.pure (Step.done r) else M.pure (Step.next (σ.1, σ.2.1, σ.2.2.1, IntKind.wrap .i64 (Add.add
  σ.2.2.2.1 1), ()))) else M.bind (M.pure (Step.next ())) fun r => M.pure (Step.done r)) (x.1, x.2, Int.ofNat (List.length x.1), 0, ())) (Step.go fun (σ
  : Unit) => M.pure (-1))
noncomputable def G_ContainsFunc (c : List α × (α → M Bool) → M Int) (x : List α × (α → M Bool)) : M Bool := M.bind (c x) fun y => M.pure (decide (y ≥ 0))
noncomputable def G_all (c : List α × (α → M Bool) → M Bool) (c1 : α × Option (α → M Bool) → M Bool) (x : List α × (α → M Bool)) : M Bool :=
  M.bind (c (x.1, fun x_1 => c1 (x_1, some x.2))) fun y => M.pure !y
noncomputable def G_allc1 (x : α × Option (α → M Bool)) : M Bool := M.bind (Option.getD x.2 (fun x => { safe := False, out := fun x => False }) x.1) fun y => M.pure !y
def idxV (p : α → Bool) : List α → Int → Int
  | [], _ => -1
  | x :: l, i => if p x = true then i else idxV p l (i + 1)
theorem idxV_ge (p : α → Bool) : ∀ (l : List α) (i : Int), 0 ≤ i → (decide (idxV p l i ≥ 0)) = l.any p
  | [], i, _ => by simp [idxV]
  | x :: l, i, h => by
    simp only [idxV, List.any_cons]
    by_cases hx : p x = true
    · simp [hx]; omega
    · have := idxV_ge p l (i + 1) (by omega)
      simpa [hx] using this
theorem foldS_idx (p : α → Bool) : ∀ (l : List α) (i : Int), foldS (fun x (i : Int) => if p x = true then (.done (.done i) : Step Int (Step Unit Int)) else .next (i + 1)) (fun _ => .next ()) l i = if l.any p = true then .done (idxV p l i) else .next ()
  | [], i => by simp [foldS]
  | x :: l, i => by
    simp only [foldS, List.any_cons, idxV]
    by_cases hx : p x = true
    · simp [hx]
    · have := foldS_idx p l (i + 1)
      simpa [hx] using this
theorem idxV_none {p : α → Bool} : ∀ (l : List α) (i : Int), ¬ l.any p = true → idxV p l i = -1
  | [], _, _ => rfl
  | x :: l, i, hn => by
    simp only [List.any_cons, Bool.or_eq_true, not_or] at hn
    simp only [idxV, hn.1, Bool.false_eq_true, if_false]
    exact idxV_none l _ hn.2
theorem gIndexFunc (d : α) (l : List α) (f : α → M Bool) (h : l.length < 2 ^ 63) (hf : ∀ y ∈ l, ∃ b, f y = M.pure b) : G_IndexFunc d (l, f) = M.pure (idxV (fun y => (f y).val false) l 0) := by
  unfold G_IndexFunc
  rw [M.loop_list l (fun i (b : Int) => (l, f, (l.length : Int), b, ())) (fun y (i : Int) => if (f y).val false = true then (.done (.done i) : Step Int (Step Unit Int)) else .next (i + 1)) (fun _ => .next ()) (fun i b => b = (i : Int)) 0 ?_ ?_ ?_ ?_]
  · rw [foldS_idx (fun y => (f y).val false)]
    by_cases ha : (l.any fun y => (f y).val false) = true
    · simp [ha]
    · have : idxV (fun y => (f y).val false) l 0 = -1 := by
        have : ∀ (l : List α) (i : Int), ¬ (l.any fun y => (f y).val false) = true → idxV (fun y => (f y).val false) l i = -1 := by
          intro l
          induction l with
          | nil => intro i _; rfl
          | cons x l ih =>
            intro i hn
            simp only [List.any_cons, Bool.or_eq_true, not_or] at hn
            simp only [idxV, hn.1, Bool.false_eq_true, if_false]
            exact ih _ hn.2
        exact this l 0 ha
      simp [ha, this]
  · rfl
  · rfl
  · intro i hi b hb
    subst hb
    have hw := wrap64 (n := (i : Int) + 1) (by omega) (by omega)
    refine ⟨?_, fun b' hb' => ?_⟩
    · obtain ⟨b, hb⟩ := hf _ (List.getElem_mem hi)
      simp only [ofNat_def, lt_len hi, if_true, getD_nat hi, in_len hi, M.req_True, hb, M.val_pure, M.bind_pure, add_def, hw]
      split <;> rfl
    · split at hb'
      · cases hb'
      · cases hb'; omega
  · intro b hb
    subst hb
    simp
end
noncomputable abbrev fcIndexFunc (e : Ty) : FC := ⟨.prod (.slice e) (.fn e .bool), tI, fun x => x.1.length < 2 ^ 63 ∧ ∀ y ∈ x.1, ∃ b, x.2 y = M.pure b, fun x => idxV (fun y => (x.2 y).val false) x.1 0⟩
theorem sIndexFunc (e : Ty) (x) : M.le (G_IndexFunc e.dflt x) ((fcIndexFunc e).sh x) := M.le_det fun h => gIndexFunc e.dflt x.1 x.2 h.1 h.2
noncomputable abbrev fcContainsFunc (e : Ty) : FC := ⟨.prod (.slice e) (.fn e .bool), tB, fun x => x.1.length < 2 ^ 63 ∧ ∀ y ∈ x.1, ∃ b, x.2 y = M.pure b, fun x => x.1.any fun y => (x.2 y).val false⟩
theorem sContainsFunc (e : Ty) (x) : M.le (G_ContainsFunc (fcIndexFunc e).sh x) ((fcContainsFunc e).sh x) := M.le_det fun h => by
  unfold G_ContainsFunc
  simp only [FC.sh, fcIndexFunc, M.bind_det]
  rw [M.req_true (by exact h)]
  exact congrArg M.pure (idxV_ge (fun y => (x.2 y).val false) x.1 0 (by omega))
noncomputable abbrev fcAllC1 (e : Ty) : FC := ⟨.prod e (.ptr (.fn e .bool)), tB, fun x => ∃ f, x.2 = some f ∧ ∃ b, f x.1 = M.pure b, fun x => !((x.2.getD fun _ => M.fail) x.1).val false⟩
theorem sAllC1 (e : Ty) (x) : M.le (G_allc1 x) ((fcAllC1 e).sh x) := M.le_det fun h => by
  obtain ⟨y, o⟩ := x
  obtain ⟨f, hf, b, hb⟩ := h
  change o = some f at hf
  subst hf
  change f y = M.pure b at hb
  unfold G_allc1
  simp only [Option.getD_some, hb, M.bind_pure, fcAllC1, M.val_pure]
noncomputable abbrev fcAllF (e : Ty) : FC := ⟨.prod (.slice e) (.fn e .bool), tB, fun x => x.1.length < 2 ^ 63 ∧ ∀ y ∈ x.1, ∃ b, x.2 y = M.pure b, fun x => x.1.all fun y => (x.2 y).val false⟩
theorem sAllF (e : Ty) (x) : M.le (G_all (fcContainsFunc e).sh (fcAllC1 e).sh x) ((fcAllF e).sh x) := M.le_det fun h => by
  obtain ⟨l, f⟩ := x
  obtain ⟨h1, h2⟩ := h
  unfold G_all
  have hc : ∀ y ∈ l, (fcAllC1 e).sh (y, some f) = M.pure (!(f y).val false) := fun y hy => by
    obtain ⟨b, hb⟩ := h2 y hy
    exact M.det_true ⟨f, rfl, b, hb⟩ _
  simp only [FC.sh, fcContainsFunc, M.bind_det]
  rw [M.req_true ⟨h1, fun y hy => ⟨_, hc y hy⟩⟩]
  refine congrArg M.pure ?_
  rw [List.not_any_eq_all_not]
  have : ∀ m : List e.Den, (m.all fun y => !((fcAllC1 e).sh (y, some f)).val false) = m.all fun y => (f y).val false := by
    intro m
    induction m with
    | nil => rfl
    | cons y m ih =>
      rw [List.all_cons, List.all_cons, ih]
      congr 1
      exact (congrArg (fun z : Bool => !z) (M.val_det (p := (fcAllC1 e).pre (y, some f)))).trans (Bool.not_not _)
  exact this l
end Go.Fer
namespace Go.Fer
open M (Step)
set_option linter.unusedVariables false
set_option linter.unusedSimpArgs false
theorem all_congr' {α : Type} {p q : α → Bool} : ∀ {l : List α}, (∀ x ∈ l, p x = q x) → l.all p = l.all q
  | [], _ => rfl
  | x :: l, h => by
    simp only [List.all_cons, h x (by simp), all_congr' fun y hy => h y (List.mem_cons_of_mem _ hy)]
theorem sPWithin (x) : M.le (S_parts_within x) (fcWithin.sh x) := M.le_det fun _ => rfl
theorem sPIsLength (x) : M.le (S_parts_isLength fcWithin.sh x) (fcIsLength.sh x) := M.le_det fun _ => eIsLength x
abbrev fcIsMark : FC := ⟨tI, tB, fun _ => True, markV⟩
theorem sPIsMark (x) : M.le (S_parts_isMark fcWithin.sh x) (fcIsMark.sh x) := M.le_det fun _ => by
  unfold S_parts_isMark
  simp only [FC.sh, fcWithin, M.bind_det, M.req_True, fcIsMark, markV]
theorem sPIsSpare (x) : M.le (S_parts_isSpare fcWithin.sh x) (fcIsSpare.sh x) := M.le_det fun h => eIsSpare x.1 x.2 h
theorem sPIsSlot (x) : M.le (S_parts_isSlot fcWithin.sh x) (fcIsSlotOf.sh x) := M.le_det fun h => by
  obtain ⟨w, m, k⟩ := x
  change smallW w at h
  have := eIsSlotOf w m k h
  unfold S_ref07_IsSlotOf at this
  unfold S_parts_isSlot
  simp only [FC.sh, fcIsMake, M.bind_det, M.req_true h, fcWithin, M.req_True, ofNat_def] at this ⊢
  have hl := h.2.1
  have hw := wrap64 (n := (w.2.1.length : Int) - 1) (by omega) (by omega)
  simp only [hw, le_pred]
  exact this
theorem sPAscending (x) : M.le (S_parts_ascending x) (fcAscending.sh x) := M.le_det fun h => eAscending x h
theorem eIndex (l : List Int) (n : Int) (h : l.length < 2 ^ 63) : S_slices_Index_int_int (l, n) = M.pure (idxV (fun y => decide (n = y)) l 0) := by
  unfold S_slices_Index_int_int
  rw [M.loop_list l (fun i (b : Int) => (l, n, (l.length : Int), b, ())) (fun y (i : Int) => if decide (n = y) = true then (.done (.done i) : Step Int (Step Unit Int)) else .next (i + 1)) (fun _ => .next ()) (fun i b => b = (i : Int)) 0 ?_ ?_ ?_ ?_]
  · rw [foldS_idx (fun y => decide (n = y))]
    by_cases ha : (l.any fun y => decide (n = y)) = true
    · rw [if_pos ha]; simp
    · rw [if_neg ha, idxV_none l 0 ha]; simp
  · rfl
  · rfl
  · intro i hi b hb
    subst hb
    have hw := wrap64 (n := (i : Int) + 1) (by omega) (by omega)
    refine ⟨?_, fun b' hb' => ?_⟩
    · simp only [ofNat_def, lt_len hi, if_true, getD_nat hi, in_len hi, M.req_True, M.bind_pure, add_def, hw]
      split <;> rfl
    · split at hb'
      · cases hb'
      · cases hb'; omega
  · intro b hb
    subst hb
    simp
abbrev fcIndex : FC := ⟨.prod tInts tI, tI, fun x => x.1.length < 2 ^ 63, fun x => idxV (fun y => decide (x.2 = y)) x.1 0⟩
theorem sIndex (x) : M.le (S_slices_Index_int_int x) (fcIndex.sh x) := M.le_det fun h => eIndex x.1 x.2 h
theorem sContains (x) : M.le (S_slices_Contains_int_int fcIndex.sh x) (fcIn.sh x) := M.le_det fun h => by
  unfold S_slices_Contains_int_int
  simp only [FC.sh, fcIndex, M.bind_det]
  rw [M.req_true (by exact h), idxV_ge _ _ _ (by omega)]
  have e : (fun y => decide (x.2 = y)) = fun y => y == x.2 := by funext y; rw [Bool.eq_iff_iff]; simp only [decide_eq_true_eq, beq_iff_eq]; exact ⟨fun h => h.symm, fun h => h.symm⟩
  rw [e, any_contains]
theorem sPIsW1 (x) : M.le (S_parts_isWorkshop_c1 fcIsMark.sh fcIsLength.sh x) ((⟨tSpare, tB, fun _ => True, spareV⟩ : FC).sh x) := M.le_det fun _ => by
  unfold S_parts_isWorkshop_c1
  simp only [FC.sh, fcIsMark, fcIsLength, M.bind_det, M.gdo_det, M.req_True, implies_true, and_gdo, spareV]
abbrev fcSpareC : FC := ⟨tSpare, tB, fun _ => True, spareV⟩
theorem sPIsW2 (x) : M.le (S_parts_isWorkshop_c2 fcAscending.sh (fcAllF tI).sh fcIsMark.sh fcIsLength.sh x) (fcIsSlot.sh x) := M.le_det fun h => by
  unfold S_parts_isWorkshop_c2
  simp only [FC.sh, fcAscending, fcIsLength, fcAllF, fcIsMark, M.bind_det, M.gdo_det, M.req_True, implies_true, M.val_det]
  rw [M.req_true (by exact fun _ => ⟨h, fun y _ => ⟨_, M.det_true trivial _⟩⟩), M.req_true (by exact fun _ => h)]
  simp only [and_gdo, ofNat_def]
  refine congrArg M.pure ?_
  show _ = slotV x
  unfold slotV
  have e : (x.2.1.all fun y => markV y) = x.2.1.all markV := rfl
  rw [e]
  cases x.2.1.all markV <;> cases markV x.1 <;> cases decide ((x.2.1.length : Int) ≤ 4) <;> simp
noncomputable abbrev fcMakeC : FC := ⟨.prod tMake (.ptr (.fn tSlot .bool)), tB, fun x => ∃ f, x.2 = some f ∧ x.1.length < 2 ^ 63 ∧ ∀ y ∈ x.1, ∃ b, f y = M.pure b, fun x => decide ((x.1.length : Int) ≤ 4) && x.1.all fun y => ((x.2.getD fun _ => M.fail) y).val false⟩
theorem sPIsW3 (x) : M.le (S_parts_isWorkshop_c3 (fcAllF tSlot).sh x) (fcMakeC.sh x) := M.le_det fun h => by
  obtain ⟨m, o⟩ := x
  obtain ⟨f, hf, h1, h2⟩ := h
  change o = some f at hf
  subst hf
  unfold S_parts_isWorkshop_c3
  simp only [FC.sh, fcAllF, M.bind_det, M.gdo_det, Option.getD_some]
  rw [M.req_true (by exact fun _ => ⟨h1, h2⟩)]
  simp only [and_gdo, ofNat_def, fcMakeC, Option.getD_some]
abbrev fcTrialC : FC := ⟨.prod tTrial (.ptr tW), tB, fun x => ∃ w, x.2 = some w ∧ smallW w, fun x => trialV (x.2.getD ([], [], 0, [])) x.1⟩
theorem sPIsW4 (x) : M.le (S_parts_isWorkshop_c4 fcIsSpare.sh fcIsSlotOf.sh fcWithin.sh x) (fcTrialC.sh x) := M.le_det fun h => by
  obtain ⟨t, o⟩ := x
  obtain ⟨w, hf, h1⟩ := h
  change o = some w at hf
  subst hf
  unfold S_parts_isWorkshop_c4
  simp only [FC.sh, fcIsSpare, fcIsSlotOf, fcWithin, M.bind_det, M.gdo_det, Option.getD_some, M.req_true h1, h1, implies_true, M.req_True, and_gdo, fcTrialC, trialV]
theorem sPIsWorkshop (x) : M.le (S_parts_isWorkshop fcWithin.sh (fcAllF tSpare).sh (fcAllF tMake).sh (fcAllF tTrial).sh fcMakeC.sh fcTrialC.sh fcSpareC.sh fcIsSlot.sh x) (fcIsWorkshop.sh x) := M.le_det fun h => by
  have h0 : smallW x := h
  obtain ⟨h1, h2, h3, h4⟩ := (h : smallW x)
  unfold S_parts_isWorkshop
  have d1 : ∀ s, fcSpareC.sh s = M.pure (spareV s) := fun _ => rfl
  have d2 : ∀ m ∈ x.2.1, fcMakeC.sh (m, some fcIsSlot.sh) = M.pure (makeV m) := fun m hm => by
    refine (M.det_true ⟨_, rfl, (h4 m hm).1, fun y hy => ⟨_, M.det_true ((h4 m hm).2 y hy) _⟩⟩ _).trans (congrArg M.pure ?_)
    simp only [fcMakeC, Option.getD_some, makeV, FC.sh, M.val_det]
    have : decide ((m.length : Int) ≤ 4) = !decide ((m.length : Int) > 4) := by by_cases hh : (m.length : Int) ≤ 4 <;> simp [hh] <;> omega
    rw [this]
  have d3 : ∀ t, fcTrialC.sh (t, some x) = M.pure (trialV x t) := fun t => M.det_true ⟨_, rfl, h0⟩ _
  have a1 : (x.1.all fun y => (fcSpareC.sh y).val false) = x.1.all spareV := all_congr' fun s _ => M.val_det
  have a2 : (x.2.1.all fun y => (fcMakeC.sh (y, some fcIsSlot.sh)).val false) = x.2.1.all makeV := all_congr' fun m hm => (congrArg (fun z : M Bool => z.val false) (d2 m hm)).trans M.val_pure
  have a3 : (x.2.2.2.all fun y => (fcTrialC.sh (y, some x)).val false) = x.2.2.2.all (trialV x) := all_congr' fun t _ => M.val_det
  have e1 : ∀ y, (fcAllF tSpare).sh y = M.det ((fcAllF tSpare).pre y) ((fcAllF tSpare).g y) := fun _ => rfl
  have e2 : ∀ y, (fcAllF tMake).sh y = M.det ((fcAllF tMake).pre y) ((fcAllF tMake).g y) := fun _ => rfl
  have e3 : ∀ y, (fcAllF tTrial).sh y = M.det ((fcAllF tTrial).pre y) ((fcAllF tTrial).g y) := fun _ => rfl
  have e4 : ∀ y, fcWithin.sh y = M.pure (fcWithin.g y) := fun _ => rfl
  simp only [e1, e2, e3, e4, M.bind_det, M.gdo_det, M.gdo_pure, M.bind_pure]
  rw [M.req_true (by exact fun _ => ⟨h1, fun y _ => ⟨_, d1 y⟩⟩), M.req_true (by exact fun _ => ⟨h2, fun y hy => ⟨_, d2 y hy⟩⟩), M.req_true (by exact fun _ => ⟨h3, fun y _ => ⟨_, d3 y⟩⟩)]
  simp only [and_gdo, ofNat_def]
  refine congrArg M.pure ?_
  show _ = wV x
  rw [a1, a2, a3]
  unfold wV headV
  have c1 : decide ((x.1.length : Int) ≤ 10) = !decide ((x.1.length : Int) > 10) := by by_cases hh : (x.1.length : Int) ≤ 10 <;> simp [hh] <;> omega
  have c2 : decide ((x.2.1.length : Int) ≤ 6) = !decide ((x.2.1.length : Int) > 6) := by by_cases hh : (x.2.1.length : Int) ≤ 6 <;> simp [hh] <;> omega
  have c3 : decide ((x.2.2.2.length : Int) ≤ 30) = !decide ((x.2.2.2.length : Int) > 30) := by by_cases hh : (x.2.2.2.length : Int) ≤ 30 <;> simp [hh] <;> omega
  rw [c1, c2, c3]
  generalize decide ((x.1.length : Int) > 10) = A
  generalize decide ((x.2.1.length : Int) > 6) = B
  generalize decide ((x.2.2.2.length : Int) > 30) = C
  generalize x.1.all spareV = D
  generalize x.2.1.all makeV = E
  generalize x.2.2.2.all (trialV x) = F
  generalize (decide (0 ≤ x.2.2.1) && decide (x.2.2.1 ≤ 99)) = G
  revert A B C D E F G
  decide
end Go.Fer
namespace Go.Fer
open M (Step)
set_option linter.unusedVariables false
set_option linter.unusedSimpArgs false
def mlkT (m : List ((Int × Int × Int) × Int)) (k : Int × Int × Int) : Option Int := Option.map (fun x => x.2) (List.find? (fun p => decide (k.1 = p.1.1) && (decide (k.2.1 = p.1.2.1) && decide (k.2.2 = p.1.2.2))) m)
def mlkI (m : List (Int × Int)) (k : Int) : Option Int := Option.map (fun x => x.2) (List.find? (fun p => decide (k = p.1)) m)
theorem eq3 {a b : Int × Int × Int} : (decide (a.1 = b.1) && (decide (a.2.1 = b.2.1) && decide (a.2.2 = b.2.2))) = decide (a = b) := by
  rw [Bool.eq_iff_iff]
  simp only [Bool.and_eq_true, decide_eq_true_eq]
  constructor
  · rintro ⟨h1, h2, h3⟩; exact Prod.ext h1 (Prod.ext h2 h3)
  · rintro rfl; exact ⟨rfl, rfl, rfl⟩
theorem mlkT_nil (k) : mlkT [] k = none := rfl
theorem mlkT_mset (k : Int × Int × Int) (v : Int) (k' : Int × Int × Int) : ∀ m, mlkT (msetT m k v) k' = if k' = k then some v else mlkT m k'
  | [] => by
    show mlkT [(k, v)] k' = _
    by_cases h : k' = k <;> simp [mlkT, eq3, h]
  | p :: m => by
    have ih := mlkT_mset k v k' m
    show mlkT (if (decide (k.1 = p.1.1) && (decide (k.2.1 = p.1.2.1) && decide (k.2.2 = p.1.2.2))) = true then (p.1, v) :: m else p :: msetT m k v) k' = _
    rw [eq3]
    by_cases h : k = p.1
    · subst h
      by_cases h' : k' = p.1 <;> simp [mlkT, eq3, h']
    · simp only [h, decide_false, Bool.false_eq_true, if_false]
      simp only [mlkT, eq3, List.find?_cons] at ih ⊢
      by_cases h' : k' = p.1
      · have : ¬ p.1 = k := fun e => h e.symm
        simp [h', this]
      · simp only [h', decide_false]
        exact ih
theorem mlkI_mset (k v k' : Int) : ∀ m, mlkI (msetI m k v) k' = if k' = k then some v else mlkI m k'
  | [] => by
    show mlkI [(k, v)] k' = _
    by_cases h : k' = k <;> simp [mlkI, h]
  | p :: m => by
    have ih := mlkI_mset k v k' m
    show mlkI (if decide (k = p.1) = true then (p.1, v) :: m else p :: msetI m k v) k' = _
    by_cases h : k = p.1
    · subst h
      by_cases h' : k' = p.1 <;> simp [mlkI, h']
    · simp only [h, decide_false, Bool.false_eq_true, if_false]
      simp only [mlkI, List.find?_cons] at ih ⊢
      by_cases h' : k' = p.1
      · have : ¬ p.1 = k := fun e => h e.symm
        simp [h', this]
      · simp only [h', decide_false]
        exact ih
def keyOf' (t : Trl) : Int × Int × Int := (t.1, t.2.1, t.2.2.1)
theorem clash_iff {a b : Trl} : clash a b = true ↔ keyOf' a = keyOf' b ∧ a.2.2.2 ≠ b.2.2.2 := by
  simp only [clash, Bool.and_eq_true, decide_eq_true_eq, keyOf', Prod.mk.injEq]
  constructor
  · rintro ⟨⟨⟨a, b⟩, c⟩, d⟩; exact ⟨⟨a, b, c⟩, d⟩
  · rintro ⟨⟨a, b, c⟩, d⟩; exact ⟨⟨⟨a, b⟩, c⟩, d⟩
theorem tabOk_iff (l : List Trl) : tabOk l = true ↔ l.Pairwise fun a b => clash a b = false := by
  unfold tabOk
  rw [List.pairwise_iff_getElem]
  simp only [List.all_eq_true, List.mem_range, Bool.not_eq_true']
  constructor
  · intro h i j hi hj hij
    have := h j hj i hij
    simpa [List.getD_eq_getElem?_getD, hi, hj] using this
  · intro h j hj i hij
    have hi : i < l.length := by omega
    have := h i j hi hj hij
    simpa [List.getD_eq_getElem?_getD, hi, hj] using this
def Seen (m : List ((Int × Int × Int) × Int)) (pre : List Trl) : Prop := ∀ k v, mlkT m k = some v ↔ (∃ t ∈ pre, keyOf' t = k ∧ t.2.2.2 = v)
def badT (m : List ((Int × Int × Int) × Int)) (t : Trl) : Bool := Option.isSome (mlkT m (keyOf' t)) && decide (Option.getD (mlkT m (keyOf' t)) 0 ≠ t.2.2.2)
theorem badT_iff {m pre} (h : Seen m pre) (hp : pre.Pairwise fun a b => clash a b = false) (t : Trl) : badT m t = true ↔ ∃ a ∈ pre, clash a t = true := by
  unfold badT
  cases hl : mlkT m (keyOf' t) with
  | none =>
    simp only [Option.isSome_none, Bool.false_and, Bool.false_eq_true, false_iff]
    rintro ⟨a, ha, hc⟩
    have := (h (keyOf' t) a.2.2.2).2 ⟨a, ha, (clash_iff.1 hc).1, rfl⟩
    rw [hl] at this; cases this
  | some v =>
    simp only [Option.isSome_some, Bool.true_and, Option.getD_some, decide_eq_true_eq]
    obtain ⟨b, hb, hk, hv⟩ := (h _ _).1 hl
    constructor
    · intro hne
      exact ⟨b, hb, clash_iff.2 ⟨hk, by rw [hv]; exact hne⟩⟩
    · rintro ⟨a, ha, hc⟩ rfl
      obtain ⟨c1, c2⟩ := clash_iff.1 hc
      have := (h (keyOf' t) a.2.2.2).2 ⟨a, ha, c1, rfl⟩
      rw [hl] at this
      exact c2 (Option.some.inj this).symm
theorem seen_next {m pre} (h : Seen m pre) {t : Trl} (hb : ∀ a ∈ pre, clash a t = false) : Seen (msetT m (keyOf' t) t.2.2.2) (pre ++ [t]) := by
  intro k v
  rw [mlkT_mset]
  by_cases hk : k = keyOf' t
  · rw [if_pos hk]
    constructor
    · intro e; exact ⟨t, by simp, hk.symm, Option.some.inj e⟩
    · rintro ⟨a, ha, h1, h2⟩
      rcases List.mem_append.1 ha with ha | ha
      · have hc := hb a ha
        have : ¬ clash a t = true := by rw [hc]; simp
        rw [clash_iff] at this
        have hne : ¬ a.2.2.2 ≠ t.2.2.2 := fun e => this ⟨h1.trans hk, e⟩
        have : a.2.2.2 = t.2.2.2 := Decidable.not_not.1 hne
        rw [← h2, this]
      · simp only [List.mem_singleton] at ha
        rw [← h2, ha]
  · rw [if_neg hk, h]
    constructor
    · rintro ⟨a, ha, h1⟩; exact ⟨a, by simp [ha], h1⟩
    · rintro ⟨a, ha, h1, h2⟩
      rcases List.mem_append.1 ha with ha | ha
      · exact ⟨a, ha, h1, h2⟩
      · simp only [List.mem_singleton] at ha
        rw [ha] at h1
        exact absurd h1.symm hk
theorem seen_fold : ∀ (rest : List Trl) (m) (pre : List Trl), Seen m pre → (pre.Pairwise fun a b => clash a b = false) →
    foldS (fun t m => if badT m t = true then (.done (.done 71) : Step _ (Step Unit Int)) else .next (msetT m (keyOf' t) t.2.2.2)) (fun _ => .next ()) rest m = if tabOk (pre ++ rest) = true then .next () else .done 71
  | [], m, pre, h, hp => by
    have := (tabOk_iff pre).2 hp
    simp [foldS, this]
  | t :: rest, m, pre, h, hp => by
    simp only [foldS]
    by_cases hb : badT m t = true
    · simp only [hb, if_true]
      obtain ⟨a, ha, hc⟩ := (badT_iff h hp t).1 hb
      have : ¬ tabOk (pre ++ t :: rest) = true := by
        rw [tabOk_iff, List.pairwise_append]
        rintro ⟨_, _, k⟩
        have := k a ha t (by simp)
        rw [hc] at this; cases this
      simp [this]
    · have hn : ∀ a ∈ pre, clash a t = false := fun a ha => by
        have := fun hc => hb ((badT_iff h hp t).2 ⟨a, ha, hc⟩)
        simpa using this
      simp only [hb, Bool.false_eq_true, if_false]
      have hp' : (pre ++ [t]).Pairwise fun a b => clash a b = false := by
        rw [List.pairwise_append]
        exact ⟨hp, by simp, fun a ha b hb => by simp only [List.mem_singleton] at hb; rw [hb]; exact hn a ha⟩
      have := seen_fold rest _ (pre ++ [t]) (seen_next h hn) hp'
      rw [this]
      simp
theorem ePCheck (w : Wsh) (h : smallW w) : S_parts_Check fcIsWorkshop.sh w = M.pure (checkV w) := by
  have hs := h
  obtain ⟨h1, h2, h3, h4⟩ := h
  unfold S_parts_Check
  simp only [FC.sh, fcIsWorkshop, M.bind_det, M.req_true hs]
  unfold checkV
  cases hw : wV w with
  | false => simp
  | true =>
    simp only [Bool.not_true, Bool.false_eq_true, if_false, if_true]
    rw [M.loop_listT w.2.2.2 (fun i (m : List ((Int × Int × Int) × Int)) => (w.2.2.2, (w.2.2.2.length : Int), (i : Int), m, ())) (fun t m => if badT m t = true then (.done (.done 71) : Step _ (Step Unit Int)) else .next (msetT m (keyOf' t) t.2.2.2)) (fun _ => .next ()) [] ?_ ?_ ?_]
    · rw [seen_fold w.2.2.2 [] [] (fun k v => by simp [mlkT_nil]) (by simp)]
      simp only [List.nil_append]
      by_cases ht : tabOk w.2.2.2 = true <;> simp [ht]
    · rfl
    · intro i hi m
      have hwr := wrap64 (n := (i : Int) + 1) (by omega) (by omega)
      simp only [ofNat_def, lt_len hi, if_true, getD_nat hi, in_len hi, M.req_True, M.bind_pure, add_def, hwr]
      exact fin_step2 (mk := fun m => (w.2.2.2, (w.2.2.2.length : Int), (i : Int) + 1, m, ()))
    · intro m
      simp
theorem sPCheck (x) : M.le (S_parts_Check fcIsWorkshop.sh x) (fcCheck.sh x) := M.le_det fun h => ePCheck x h
theorem ePFits (w : Wsh) (i n m k : Int) (hw : goodW w) (hi : isSpareV w i = true) (hm : isSlotOfV w m k = true) : S_parts_fits fcWithin.sh fcIn.sh (w, i, n, m, k) = M.pure (fitsAt w i n m k) := eFitsAt w i n m k hw hi hm
theorem sPFits (x) : M.le (S_parts_fits fcWithin.sh fcIn.sh x) (fcFitsAt.sh x) := M.le_det fun h => ePFits x.1 x.2.1 x.2.2.1 x.2.2.2.1 x.2.2.2.2 h.1 h.2.1 h.2.2
abbrev fcOpenC : FC := ⟨.prod tTrial (.prod (.ptr tI) (.prod (.ptr tW) (.ptr tI))), tB, fun x => ∃ i w n, x.2 = (some i, some w, some n) ∧ goodW w ∧ isSpareV w i = true ∧ isSlotOfV w x.1.2.1 x.1.2.2.1 = true,
  fun x => bears (x.2.2.1.getD ([], [], 0, [])) (x.2.1.getD 0) (x.2.2.2.getD 0) x.1⟩
theorem sPOpenC (x) : M.le (S_parts_open_c1 fcFitsAt.sh x) (fcOpenC.sh x) := M.le_det fun h => by
  obtain ⟨t, o⟩ := x
  obtain ⟨i, w, n, hf, hw, hi, hm⟩ := h
  change o = _ at hf
  subst hf
  unfold S_parts_open_c1
  simp only [FC.sh, M.safe_det, M.val_det, Option.getD_some, and_true, true_and, and_self, imp_self, M.req_True, ne_eq]
  by_cases ht : t.1 = i
  · have hp : goodW w ∧ isSpareV w i = true ∧ isSlotOfV w t.2.1 t.2.2.1 = true := ⟨hw, hi, hm⟩
    simp [bears, ht, hp, M.req_true hp]
  · simp [bears, ht]
def lensAll (w : Wsh) : List (List Int) := (List.range w.1.length).map fun (i : Nat) => lens w (i : Int)
noncomputable def openV (w : Wsh) (is : Bool) : Option Shp × Int := if knownV w is ≠ 0 then (none, knownV w is) else (some (w, lensAll w), 0)
noncomputable abbrev fcOpen : FC := ⟨.prod tW tB, .prod (.ptr (.st (.prod tW (.slice tInts)))) tI, fun x => smallW x.1, fun x => openV x.1 x.2⟩
theorem lens_eq {w : Wsh} {i : Int} : lens w i = (intR (spareAt w i).2.2.1 (spareAt w i).2.2.2).filter fun n => w.2.2.2.all (bears w i n) := by
  unfold lens
  refine List.filter_congr fun n hn => ?_
  rw [mem_intR] at hn
  simp [canBe, hn]
theorem foldl_first {w : Wsh} : ∀ (l : List Nat) (acc : List (List Int)), foldS (fun (i : Nat) (acc : List (List Int)) => if decide (((lens w (i : Int)).length : Int) = 0) = true then (.done (.done (none, (3 : Int))) : Step _ (Step (List Spr × List (List Slt) × Int × List Trl × List (List Int) × Unit) (Option Shp × Int))) else .next (acc ++ [lens w (i : Int)])) (fun acc => .next (w.1, w.2.1, w.2.2.1, w.2.2.2, acc, ())) l acc
    = if (l.all fun (i : Nat) => !decide (((lens w (i : Int)).length : Int) = 0)) = true then .next (w.1, w.2.1, w.2.2.1, w.2.2.2, acc ++ l.map (fun (i : Nat) => lens w (i : Int)), ()) else .done (none, 3)
  | [], acc => by simp [foldS]
  | i :: l, acc => by
    simp only [foldS, List.all_cons, List.map_cons]
    by_cases h : ((lens w (i : Int)).length : Int) = 0
    · simp [h]
    · simp only [h, decide_false, Bool.false_eq_true, if_false, Bool.not_false, Bool.true_and]
      rw [foldl_first l]
      simp
theorem ePOpen (w : Wsh) (is : Bool) (h : smallW w) : S_parts_open fcCheck.sh (fcAllF tTrial).sh fcOpenC.sh (w, is) = M.pure (openV w is) := by
  unfold S_parts_open openV knownV
  simp only [FC.sh, M.bind_det, M.req_true h]
  by_cases hc : checkV w = 0
  · have hw : goodW w := ⟨h, wV_of_check hc⟩
    have hhd := wV_head hw.2
    simp only [hc, ne_eq, not_true, decide_false, Bool.false_eq_true, if_false]
    cases is with
    | false => simp
    | true =>
      simp only [Bool.not_true, Bool.false_eq_true, if_false, Bool.true_eq_false]
      rw [M.loop_list (List.range w.1.length) (fun i (acc : List (List Int)) => (w.1, (w.1.length : Int), (i : Int), w, w.1, w.2.1, w.2.2.1, w.2.2.2, acc, ())) (fun (i : Nat) (acc : List (List Int)) => if decide (((lens w (i : Int)).length : Int) = 0) = true then (.done (.done (none, (3 : Int))) : Step _ (Step (List Spr × List (List Slt) × Int × List Trl × List (List Int) × Unit) (Option Shp × Int))) else .next (acc ++ [lens w (i : Int)])) (fun acc => .next (w.1, w.2.1, w.2.2.1, w.2.2.2, acc, ())) (fun i acc => acc.length ≤ i) [] ?_ ?_ ?_ ?_]
      · rw [foldl_first]
        have e : ((List.range w.1.length).all fun (i : Nat) => !decide (((lens w (i : Int)).length : Int) = 0)) = hasTruth w := rfl
        rw [e]
        by_cases ht : hasTruth w = true <;> simp [ht, lensAll]
      · rfl
      · simp
      · intro i hi acc hacc
        have hi : i < w.1.length := by simpa using hi
        have hsp := isSpareV_nat hi
        have hl := wV_spare hw.2 hsp
        have hwr := wrap64 (n := (i : Int) + 1) (by omega) (by omega)
        have hg : w.1[i] = spareAt w (i : Int) := by simp [spareAt, List.getD_eq_getElem?_getD, hi]
        refine ⟨?_, fun b' hb => ?_⟩
        · simp only [ofNat_def, lt_len hi, if_true, getD_nat hi, in_len hi, M.req_True, hg, List.getElem_range]
          rw [M.loop_list (intR (spareAt w (i : Int)).2.2.1 (spareAt w (i : Int)).2.2.2) (fun k (l : List Int) => (w.1, (w.1.length : Int), (i : Int), w, (i : Int), spareAt w (i : Int), l, (spareAt w (i : Int)).2.2.1 + (k : Int), w.1, w.2.1, w.2.2.1, w.2.2.2, acc, ())) (fun n l => .next (if w.2.2.2.all (bears w (i : Int) n) = true then l ++ [n] else l)) (fun l => .next (w.1, (w.1.length : Int), (i : Int), w, l, w.1, w.2.1, w.2.2.1, w.2.2.2, acc, ())) (fun k l => l.length ≤ k) [] ?_ ?_ ?_ ?_]
          · rw [foldS_next, foldl_filter_app]
            simp only [M.bind_pure, M.go_next, List.nil_append]
            rw [← lens_eq]
            by_cases hz : ((lens w (i : Int)).length : Int) = 0
            · simp [hz]
            · have hll : lenLe (acc.length + (0 + 1)) := by unfold lenLe; omega
              simp only [hz, decide_false, Bool.false_eq_true, if_false, add_def, add_defN, M.req_true hll, M.req_True, M.bind_pure, M.go_next, hwr, Step.mapN]
              rfl
          · simp
          · simp
          · intro k hk l hkl
            have hk2 : k < 1000 := by rw [intR_length] at hk; omega
            have hlo : (spareAt w (i : Int)).2.2.1 + (k : Int) ≤ (spareAt w (i : Int)).2.2.2 := by rw [intR_length] at hk; omega
            have hwr2 := wrap64 (n := (spareAt w (i : Int)).2.2.1 + ((k : Int) + 1)) (by omega) (by omega)
            have hll : lenLe (l.length + (0 + 1)) := by unfold lenLe; omega
            refine ⟨?_, fun b' hb => ?_⟩
            · have hcl : ∀ t ∈ w.2.2.2, fcOpenC.sh (t, some (i : Int), some w, some ((spareAt w (i : Int)).2.2.1 + (k : Int))) = M.pure (bears w (i : Int) ((spareAt w (i : Int)).2.2.1 + (k : Int)) t) := fun t ht => M.det_true ⟨_, _, _, rfl, hw, hsp, (wV_trial hw.2 ht).2⟩ _
              simp only [hlo, decide_true, if_true, intR_get]
              rw [M.req_true (by exact ⟨h.2.2.1, fun t ht => ⟨_, hcl t ht⟩⟩)]
              have e : (w.2.2.2.all fun y => (M.det (fcOpenC.pre (y, some (i : Int), some w, some ((spareAt w (i : Int)).2.2.1 + (k : Int)))) (fcOpenC.g (y, some (i : Int), some w, some ((spareAt w (i : Int)).2.2.1 + (k : Int))))).val false) = w.2.2.2.all (bears w (i : Int) ((spareAt w (i : Int)).2.2.1 + (k : Int))) := all_congr' fun t ht => M.val_det
              rw [e]
              by_cases hb : w.2.2.2.all (bears w (i : Int) ((spareAt w (i : Int)).2.2.1 + (k : Int))) = true
              · simp only [hb, if_true, add_def, add_defN, M.req_true hll, M.bind_pure, M.go_next, hwr2, Step.mapN, Int.natCast_add, Int.natCast_one, Int.add_assoc]
              · simp only [hb, Bool.false_eq_true, if_false, add_def, add_defN, M.bind_pure, M.go_next, hwr2, Step.mapN, Int.natCast_add, Int.natCast_one, Int.add_assoc]
            · cases hb
              split <;> (try simp only [List.length_append, List.length_singleton]) <;> omega
          · intro l hkl
            have : ¬ (spareAt w (i : Int)).2.2.1 + ((intR (spareAt w (i : Int)).2.2.1 (spareAt w (i : Int)).2.2.2).length : Int) ≤ (spareAt w (i : Int)).2.2.2 := by rw [intR_length]; omega
            simp only [this, decide_false, Bool.false_eq_true, if_false, M.bind_pure]
        · split at hb
          · cases hb
          · cases hb
            simp only [List.length_append, List.length_singleton]
            omega
      · intro acc hacc
        simp
  · simp [hc]
theorem sPOpen (x) : M.le (S_parts_open fcCheck.sh (fcAllF tTrial).sh fcOpenC.sh x) (fcOpen.sh x) := M.le_det fun h => ePOpen x.1 x.2 h
theorem sPKnown (x) : M.le (S_parts_known x) (fcIs.sh x) := M.le_det fun _ => by
  unfold S_parts_known
  simp only [isV, decide_eq_true_eq]
  split
  · rfl
  · split <;> rfl
theorem lensAll_len (w : Wsh) : (lensAll w).length = w.1.length := by simp [lensAll]
theorem lensAll_get {w : Wsh} {i : Int} (h : isSpareV w i = true) : List.getD (lensAll w) i.toNat [] = lens w i := by
  rw [isSpareV_iff] at h
  have : i.toNat < w.1.length := by omega
  have e : ((i.toNat : Nat) : Int) = i := by omega
  simp [lensAll, List.getD_eq_getElem?_getD, this, e]
abbrev tShp : Ty := .ptr (.st (.prod tW (.slice tInts)))
def isShop (o : Option Shp) (w : Wsh) : Prop := o = some (w, lensAll w) ∧ goodW w
abbrev fcShopFits : FC := ⟨.prod tShp (.prod tI (.prod tI tI)), tI, fun x => ∃ w, isShop x.1 w ∧ isSpareV w x.2.1 = true ∧ isSlotOfV w x.2.2.1 x.2.2.2 = true, fun x => fitsV ((x.1.getD (([], [], 0, []), [])).1) x.2.1 x.2.2.1 x.2.2.2⟩
theorem eShopFits (w : Wsh) (i m k : Int) (hw : goodW w) (hi : isSpareV w i = true) (hm : isSlotOfV w m k = true) : S_parts_shop_fits fcFitsAt.sh fcIs.sh (some (w, lensAll w), i, m, k) = M.pure (fitsV w i m k) := by
  unfold S_parts_shop_fits
  have hll := lens_len hw hi
  have r1 : 0 ≤ i ∧ i < ((lensAll w).length : Int) := by rw [lensAll_len]; exact isSpareV_iff.1 hi
  simp only [Option.isSome_some, Option.getD_some, M.req_True, ofNat_def, lensAll_get hi, M.req_true r1]
  rw [M.loop_list (lens w i) (fun j (n : Int) => (some (w, lensAll w), i, m, k, n, lens w i, ((lens w i).length : Int), (j : Int), ())) (fun x n => .next (if fitsAt w i x m k = true then n + 1 else n)) (fun n => .next (some (w, lensAll w), i, n, ())) (fun j n => 0 ≤ n ∧ n ≤ (j : Int)) 0 ?_ ?_ ?_ ?_]
  · rw [foldS_next, foldl_count]
    simp only [M.bind_pure, M.go_next, Option.isSome_some, Option.getD_some, M.req_True, M.req_true r1, lensAll_get hi, FC.sh, M.bind_det, Int.zero_add]
    rfl
  · rfl
  · simp
  · intro j hj n hn
    have hwj := wrap64 (n := (j : Int) + 1) (by omega) (by omega)
    have hwn := wrap64 (n := n + 1) (by omega) (by omega)
    have hp : goodW w ∧ isSpareV w i = true ∧ isSlotOfV w m k = true := ⟨hw, hi, hm⟩
    refine ⟨?_, fun b' hb => ?_⟩
    · simp only [lt_len hj, if_true, getD_nat hj, in_len hj, M.req_True, Option.isSome_some, Option.getD_some, FC.sh, M.bind_det, M.req_true hp, add_def, hwn]
      cases fitsAt w i (lens w i)[j] m k <;> simp [hwj]
    · cases hb
      split <;> omega
  · intro n hn
    simp
theorem sShopFits (x) : M.le (S_parts_shop_fits fcFitsAt.sh fcIs.sh x) (fcShopFits.sh x) := M.le_det fun h => by
  obtain ⟨o, i, m, k⟩ := x
  obtain ⟨w, ⟨hf, hw⟩, hi, hm⟩ := h
  change o = _ at hf
  subst hf
  exact eShopFits w i m k hw hi hm
theorem openV_0 {w : Wsh} {is : Bool} (h : knownV w is = 0) : openV w is = (some (w, lensAll w), 0) := by simp [openV, h]
theorem openV_1 {w : Wsh} {is : Bool} (h : knownV w is ≠ 0) : openV w is = (none, knownV w is) := by simp [openV, h]
theorem ePLength (w : Wsh) (i : Int) (h : smallW w) : S_parts_Length fcOpen.sh fcIsSpare.sh (w, i) = M.pure (lengthV w i) := by
  unfold S_parts_Length lengthV
  simp only [FC.sh, M.safe_det, M.val_det, h, M.req_True]
  by_cases hk : knownV w (isSpareV w i) = 0
  · have hw := good_of_known h hk
    have hi := (knownV_0 hk).2.1
    have hp := lens_pos (knownV_0 hk).2.2 hi
    have hll := lens_len hw hi
    have hwr := wrap64 (n := ((lens w i).length : Int) - 1) (by omega) (by omega)
    have e1 : (((lens w i).length : Int) - 1).toNat = (lens w i).length - 1 := by omega
    have r0 : 0 ≤ i ∧ i < ((lensAll w).length : Int) := by rw [lensAll_len]; exact isSpareV_iff.1 hi
    have r1 : (0 : Int) ≤ 0 ∧ (0 : Int) < ((lens w i).length : Int) := by omega
    have r2 : (0 : Int) ≤ ((lens w i).length : Int) - 1 ∧ ((lens w i).length : Int) - 1 < ((lens w i).length : Int) := by omega
    simp only [openV_0 hk, hk, ne_eq, not_true, decide_false, Bool.false_eq_true, if_false, Option.isSome_some, Option.getD_some, M.req_True, ofNat_def, lensAll_get hi, M.req_true r0, hwr, e1, M.req_true r2]
    rw [M.req_true (by exact r1)]
    rfl
  · simp [openV_1 hk, hk]
theorem sPLength (x) : M.le (S_parts_Length fcOpen.sh fcIsSpare.sh x) (fcLength.sh x) := M.le_det fun h => ePLength x.1 x.2 h
end Go.Fer
namespace Go.Fer
open M (Step)
set_option linter.unusedVariables false
set_option linter.unusedSimpArgs false
theorem wrapU64 {n : Int} (h1 : 0 ≤ n) (h2 : n < 18446744073709551616) : IntKind.u64.wrap n = n := by
  show (if (false && decide (n % 2 ^ 64 ≥ (2 ^ (64 - 1) : Int))) = true then n % 2 ^ 64 - 2 ^ 64 else n % 2 ^ 64) = n
  have e1 : (2 : Int) ^ 64 = 18446744073709551616 := by decide
  simp only [Bool.false_and, Bool.false_eq_true, if_false, e1]
  omega
def orI (a b : Int) : Int := ((a.toNat ||| b.toNat : Nat) : Int)
theorem ofInt_small {a : Int} (h0 : 0 ≤ a) (h : a < 9223372036854775808) : (BitVec.ofInt 64 a).toNat = a.toNat := by
  rw [BitVec.toNat_ofInt]
  have : a % ((2 ^ 64 : Nat) : Int) = a := by
    have e1 : ((2 ^ 64 : Nat) : Int) = 18446744073709551616 := by decide
    rw [e1]; omega
  rw [this]
theorem or_small {a b : Nat} (h : a < 9223372036854775808) (h' : b < 9223372036854775808) : a ||| b < 9223372036854775808 := by
  have := Nat.or_lt_two_pow (x := a) (y := b) (n := 63) (by simpa using h) (by simpa using h')
  simpa using this
theorem ior_eq {a b : Int} (h0 : 0 ≤ a) (h : a < 9223372036854775808) (h0' : 0 ≤ b) (h' : b < 9223372036854775808) : ior .i64 a b = orI a b := by
  show IntKind.i64.wrap ((BitVec.ofInt 64 a ||| BitVec.ofInt 64 b).toNat : Int) = _
  rw [BitVec.toNat_or, ofInt_small h0 h, ofInt_small h0' h']
  have := or_small (a := a.toNat) (b := b.toNat) (by omega) (by omega)
  exact wrap64 (by omega) (by omega)
theorem ishl_one {k : Nat} (h : k < 63) : ishl .i64 1 (k : Int) = ((2 ^ k : Nat) : Int) := by
  show IntKind.i64.wrap (1 * 2 ^ (min ((k : Int).toNat) 64)) = _
  have e : min ((k : Int).toNat) 64 = k := by omega
  rw [e, Int.one_mul]
  have h2 : (2 : Nat) ^ k ≤ 2 ^ 62 := Nat.pow_le_pow_right (by omega) (by omega)
  have e3 : (2 : Nat) ^ 62 = 4611686018427387904 := by decide
  have e2 : (2 : Int) ^ k = ((2 ^ k : Nat) : Int) := by simp
  rw [e2]
  rw [e3] at h2
  generalize 2 ^ k = p at h2
  exact wrap64 (by omega) (by omega)
theorem nodup_bound : ∀ (n : Nat) (l : List Int), l.Nodup → (∀ x ∈ l, 0 ≤ x ∧ x < (n : Int)) → l.length ≤ n
  | 0, l, _, h => by
    cases l with
    | nil => simp
    | cons x l => have := h x (by simp); omega
  | n + 1, l, hn, h => by
    have h2 := nodup_bound n (l.erase (n : Int)) (hn.erase _) fun x hx => by
      have h1 := h x (List.mem_of_mem_erase hx)
      have h3 : x ≠ (n : Int) := fun e => by rw [hn.mem_erase_iff] at hx; exact hx.1 e
      omega
    rw [List.length_erase] at h2
    split at h2 <;> omega
def covN (w : Wsh) (i n m : Int) : Nat := (List.range (slotsOfV w m).length).foldl (fun b (k : Nat) => if fitsAt w i n m (k : Int) = true then b ||| 2 ^ k else b) 0
theorem foldl_cov_lt {p : Nat → Bool} (s : Nat) : ∀ (l : List Nat) (b : Nat), (∀ k ∈ l, k < s) → b < 2 ^ s → l.foldl (fun b k => if p k = true then b ||| 2 ^ k else b) b < 2 ^ s
  | [], b, _, hb => hb
  | k :: l, b, hl, hb => by
    simp only [List.foldl_cons]
    refine foldl_cov_lt s l _ (fun j hj => hl j (List.mem_cons_of_mem _ hj)) ?_
    split
    · exact Nat.or_lt_two_pow hb (Nat.pow_lt_pow_right (by omega) (hl k (by simp)))
    · exact hb
theorem covN_lt (w : Wsh) (i n m : Int) : covN w i n m < 2 ^ (slotsOfV w m).length := foldl_cov_lt _ _ _ (fun k hk => by simpa using hk) (Nat.two_pow_pos _)
def covV (w : Wsh) (i n m : Int) : Int := (covN w i n m : Int)
theorem slots_le {w : Wsh} (hw : goodW w) {m : Int} (hm : isMakeV w m = true) : (slotsOfV w m).length ≤ 4 := by
  rw [isMakeV_iff] at hm
  have := (wV_split hw.2).2.2.1 _ (getD_mem (d := []) hm.1 hm.2)
  simp only [makeV, Bool.and_eq_true, Bool.not_eq_true', decide_eq_false_iff_not] at this
  unfold slotsOfV
  omega
theorem covV_16 {w : Wsh} (hw : goodW w) {m : Int} (hm : isMakeV w m = true) (i n : Int) : 0 ≤ covV w i n m ∧ covV w i n m < 16 := by
  have h1 := covN_lt w i n m
  have h2 : 2 ^ (slotsOfV w m).length ≤ 2 ^ 4 := Nat.pow_le_pow_right (by omega) (slots_le hw hm)
  unfold covV
  omega
theorem isSlotOfV_nat {w : Wsh} {m : Int} (hm : isMakeV w m = true) {k : Nat} (hk : k < (slotsOfV w m).length) : isSlotOfV w m (k : Int) = true := by
  rw [isSlotOfV_iff]
  exact ⟨isMakeV_iff.1 hm, by omega, by omega⟩
def addN (l : List Int) (c : Int) : List Int := if l.contains c = true then l else l ++ [c]
theorem addN_nodup {l : List Int} (h : l.Nodup) (c : Int) : (addN l c).Nodup := by
  unfold addN
  split
  · exact h
  · rename_i hc
    have hc : c ∉ l := by simpa using hc
    rw [List.nodup_append]
    exact ⟨h, by simp, fun a ha b hb => by simp only [List.mem_singleton] at hb; rw [hb]; exact fun e => hc (e ▸ ha)⟩
theorem mem_addN {l : List Int} {c x : Int} : x ∈ addN l c ↔ x ∈ l ∨ x = c := by
  unfold addN
  split
  · rename_i hc
    have hc : c ∈ l := by simpa using hc
    exact ⟨.inl, fun h => h.elim id fun e => e ▸ hc⟩
  · simp
def caseV (w : Wsh) (i m : Int) : List Int := (lens w i).foldl (fun own n => addN own (covV w i n m)) []
def casesV (w : Wsh) (m : Int) : List (List Int) := (List.range w.1.length).map fun (i : Nat) => caseV w (i : Int) m
end Go.Fer
namespace Go.Fer
open M (Step)
set_option linter.unusedVariables false
set_option linter.unusedSimpArgs false
def small16 (l : List Int) : Prop := ∀ x ∈ l, 0 ≤ x ∧ x < 16
theorem orI_16 {a b : Int} (h : 0 ≤ a ∧ a < 16) (h' : 0 ≤ b ∧ b < 16) : 0 ≤ orI a b ∧ orI a b < 16 := by
  unfold orI
  have := Nat.or_lt_two_pow (x := a.toNat) (y := b.toNat) (n := 4) (by omega) (by omega)
  simp at this
  omega
theorem ior_16 {a b : Int} (h : 0 ≤ a ∧ a < 16) (h' : 0 ≤ b ∧ b < 16) : ior .i64 a b = orI a b := ior_eq (by omega) (by omega) (by omega) (by omega)
def Fine (l : List Int) : Prop := l.Nodup ∧ small16 l
theorem Fine.len {l : List Int} (h : Fine l) : l.length ≤ 16 := nodup_bound 16 l h.1 h.2
theorem Fine.add {l : List Int} (h : Fine l) {c : Int} (hc : 0 ≤ c ∧ c < 16) : Fine (addN l c) :=
  ⟨addN_nodup h.1 c, fun x hx => by
    rcases mem_addN.1 hx with k | rfl
    · exact h.2 x k
    · exact hc⟩
def stepIn (c : Int) (can next : List Int) : List Int := can.foldl (fun next b => addN next (orI b c)) next
def stepC (can l : List Int) : List Int := l.foldl (fun next c => stepIn c can next) []
theorem stepIn_fine {c : Int} (hc : 0 ≤ c ∧ c < 16) : ∀ {can next : List Int}, small16 can → Fine next → Fine (stepIn c can next)
  | [], _, _, h => h
  | b :: can, next, hs, h => stepIn_fine (can := can) hc (fun x hx => hs x (List.mem_cons_of_mem _ hx)) (h.add (orI_16 (hs b (by simp)) hc))
theorem foldl_fine {can : List Int} (hcan : small16 can) : ∀ (l next : List Int), small16 l → Fine next → Fine (l.foldl (fun next c => stepIn c can next) next)
  | [], _, _, h => h
  | c :: l, next, hs, h => foldl_fine hcan l _ (fun x hx => hs x (List.mem_cons_of_mem _ hx)) (stepIn_fine (hs c (by simp)) hcan h)
theorem stepC_fine {can l : List Int} (hcan : small16 can) (hl : small16 l) : Fine (stepC can l) := foldl_fine hcan l [] hl ⟨List.nodup_nil, fun x hx => by cases hx⟩
def canV (each : List (List Int)) (list : List Int) : List Int := list.foldl (fun can i => stepC can (each.getD i.toNat [])) [0]
def fullV (w : Wsh) (m : Int) : Int := ((2 ^ (slotsOfV w m).length : Nat) : Int) - 1
def mendsV (w : Wsh) (each : List (List Int)) (list : List Int) (m : Int) : Int := isV ((canV each list).countP fun b => decide (b = fullV w m) : Int) ((canV each list).length : Int)
theorem caseV_fine {w : Wsh} (hw : goodW w) {m : Int} (hm : isMakeV w m = true) (i : Int) : Fine (caseV w i m) := by
  unfold caseV
  have : ∀ (l own : List Int), Fine own → Fine (l.foldl (fun own n => addN own (covV w i n m)) own) := by
    intro l
    induction l with
    | nil => intro own h; exact h
    | cons n l ih => intro own h; exact ih _ (h.add (covV_16 hw hm i n))
  exact this _ _ ⟨List.nodup_nil, fun x hx => by cases hx⟩
def mendV (w : Wsh) (list : List Int) (m : Int) : Int := mendsV w (casesV w m) list m
theorem isMakeV_nat {w : Wsh} {i : Nat} (h : i < w.2.1.length) : isMakeV w (i : Int) = true := by rw [isMakeV_iff]; omega
def mendsAllV (w : Wsh) (list : List Int) : Bool := (List.range w.2.1.length).all fun (m : Nat) => decide (mendV w list (m : Int) = 1)
end Go.Fer
namespace Go.Fer
open M (Step)
set_option linter.unusedVariables false
set_option linter.unusedSimpArgs false
theorem ishr_nat {k : IntKind} (hk : k.bits = 64) {a i : Nat} (h : i < 63) : ishr k (a : Int) (i : Int) = ((a / 2 ^ i : Nat) : Int) := by
  show (a : Int).fdiv (2 ^ (min ((i : Int).toNat) k.bits)) = _
  have e : min ((i : Int).toNat) k.bits = i := by rw [hk]; omega
  rw [e]
  have e2 : (2 : Int) ^ i = ((2 ^ i : Nat) : Int) := by simp
  rw [e2, Int.fdiv_eq_ediv_of_nonneg _ (Int.natCast_nonneg _)]
  rfl
theorem iand_oneU {a : Nat} (h : a < 9223372036854775808) : iand .u64 (a : Int) 1 = ((a % 2 : Nat) : Int) := by
  show IntKind.u64.wrap ((BitVec.ofInt 64 (a : Int) &&& BitVec.ofInt 64 1).toNat : Int) = _
  rw [BitVec.toNat_and, ofInt_small (by omega) (by omega), ofInt_small (by omega) (by omega)]
  have e : ((1 : Int).toNat) = 1 := rfl
  rw [e, Int.toNat_natCast, Nat.and_one_is_mod]
  exact wrapU64 (by omega) (by omega)
def bitsL (n b : Nat) : List Int := ((List.range n).filter fun i => decide (b / 2 ^ i % 2 = 1)).map fun (i : Nat) => (i : Int)
theorem foldl_filter_map {α β : Type} {p : α → Bool} {g : α → β} : ∀ (l : List α) (b : List β), l.foldl (fun b x => if p x = true then b ++ [g x] else b) b = b ++ (l.filter p).map g
  | [], b => by simp
  | x :: l, b => by
    simp only [List.foldl_cons, List.filter_cons]
    rw [foldl_filter_map l]
    split <;> simp
theorem bitsL_len (n b : Nat) : (bitsL n b).length ≤ n := by
  unfold bitsL
  have := List.length_filter_le (fun i => decide (b / 2 ^ i % 2 = 1)) (List.range n)
  simpa using this
theorem bitsL_mem {n b : Nat} {i : Int} (h : i ∈ bitsL n b) : 0 ≤ i ∧ i < (n : Int) := by
  simp only [bitsL, List.mem_map, List.mem_filter, List.mem_range] at h
  obtain ⟨k, ⟨hk, _⟩, rfl⟩ := h
  omega
def firstLen (out : List (List Int)) : Int := ((out.getD 0 []).length : Int)
def stepL (w : Wsh) (out : List (List Int)) (b : Nat) : List (List Int) :=
  if (decide ((out.length : Int) > 0) && decide (((bitsL w.1.length b).length : Int) > firstLen out)) = true then out
  else if mendsAllV w (bitsL w.1.length b) = true then (if (decide ((out.length : Int) > 0) && decide (((bitsL w.1.length b).length : Int) < firstLen out)) = true then [] else out) ++ [bitsL w.1.length b]
  else out
def listsV (w : Wsh) : List (List Int) := (List.range (2 ^ w.1.length)).foldl (stepL w) []
end Go.Fer
namespace Go.Fer
open M (Step)
set_option linter.unusedVariables false
set_option linter.unusedSimpArgs false
def fewestR (w : Wsh) : Int × Int := if knownV w true ≠ 0 then (0, knownV w true) else if ((listsV w).length : Int) = 0 then (0, 3) else (firstLen (listsV w), 0)
def neededR (w : Wsh) : List Int × Int := if (fewestR w).2 ≠ 0 then ([], (fewestR w).2) else
  (((List.range w.1.length).filter fun (i : Nat) => decide ((((listsV w).countP fun l => l.contains (i : Int)) : Int) = ((listsV w).length : Int))).map fun (i : Nat) => (i : Int), 0)
end Go.Fer
namespace Go.Fer
open M (Step)
set_option linter.unusedVariables false
set_option linter.unusedSimpArgs false
theorem M.ret_loop_n {σ ρ : Type} {body : σ → M (Step σ ρ)} {p : ρ → Prop} {s0 : σ} (n : Nat) (I : Nat → σ → Prop) (h0 : I 0 s0)
    (hs : ∀ i, i < n → ∀ s, I i s → M.Ret (body s) fun st => match st with | .next s' => I (i + 1) s' | .done r => p r)
    (hf : ∀ s, I n s → M.Ret (body s) fun st => match st with | .next _ => False | .done r => p r) : M.Ret (M.loop body s0) p := by
  have key : ∀ k i s, n - i = k → i ≤ n → I i s → M.Ret (M.loop body s) p := by
    intro k
    induction k with
    | zero =>
      intro i s hk hi h
      have : i = n := by omega
      subst this
      rw [M.loop_unfold, M.ret_bind]
      refine (hf s h).mono fun y hy => ?_
      cases y with
      | next s' => exact hy.elim
      | done r => exact M.ret_pure.2 hy
    | succ k ih =>
      intro i s hk hi h
      rw [M.loop_unfold, M.ret_bind]
      refine (hs i (by omega) s h).mono fun y hy => ?_
      cases y with
      | next s' => exact ih (i + 1) s' (by omega) (by omega) hy
      | done r => exact M.ret_pure.2 hy
  exact key n 0 s0 rfl (Nat.zero_le _) h0
theorem M.ret_of_eq {α : Type} {m : M α} {v : α} {p : α → Prop} (h : m = M.pure v) (hp : p v) : M.Ret m p := by rw [h]; exact M.ret_pure.2 hp
def keysI (m : List (Int × Int)) : List Int := m.map (·.1)
theorem msetI_cons (p : Int × Int) (m : List (Int × Int)) (k v : Int) : msetI (p :: m) k v = if decide (k = p.1) = true then (p.1, v) :: m else p :: msetI m k v := rfl
theorem keys_mset (k v : Int) : ∀ (m : List (Int × Int)), ((keysI m).Nodup → (keysI (msetI m k v)).Nodup) ∧ ∀ x, x ∈ keysI (msetI m k v) ↔ x ∈ keysI m ∨ x = k
  | [] => by
    show ((keysI []).Nodup → (keysI [(k, v)]).Nodup) ∧ ∀ x, x ∈ keysI [(k, v)] ↔ x ∈ keysI [] ∨ x = k
    simp [keysI]
  | p :: m => by
    obtain ⟨h1, h2⟩ := keys_mset k v m
    rw [msetI_cons]
    by_cases h : k = p.1
    · subst h
      simp only [decide_true, if_true]
      refine ⟨fun h => h, fun x => ?_⟩
      show x ∈ p.1 :: keysI m ↔ x ∈ p.1 :: keysI m ∨ x = p.1
      simp only [List.mem_cons]
      exact ⟨.inl, fun h => h.elim id .inl⟩
    · simp only [h, decide_false, Bool.false_eq_true, if_false]
      refine ⟨fun hn => ?_, fun x => ?_⟩
      · show (p.1 :: keysI (msetI m k v)).Nodup
        have hn' : (p.1 :: keysI m).Nodup := hn
        rw [List.nodup_cons] at hn' ⊢
        refine ⟨fun hm => ?_, h1 hn'.2⟩
        rcases (h2 p.1).1 hm with hm | hm
        · exact hn'.1 hm
        · exact h hm.symm
      · show x ∈ p.1 :: keysI (msetI m k v) ↔ x ∈ p.1 :: keysI m ∨ x = k
        simp only [List.mem_cons, h2, or_assoc]
theorem mem_mset {k v : Int} : ∀ {m : List (Int × Int)} {q : Int × Int}, q ∈ msetI m k v → q ∈ m ∨ q.2 = v
  | [], q, h => by
    have h : q ∈ [(k, v)] := h
    simp at h
    rw [h]; exact .inr rfl
  | p :: m, q, h => by
    rw [msetI_cons] at h
    split at h
    · rcases List.mem_cons.1 h with rfl | h
      · exact .inr rfl
      · exact .inl (List.mem_cons_of_mem _ h)
    · rcases List.mem_cons.1 h with rfl | h
      · exact .inl List.mem_cons_self
      · exact (mem_mset h).imp (List.mem_cons_of_mem _) id
theorem mlk_bound {m : List (Int × Int)} {k T : Int} (h : ∀ p ∈ m, 1 ≤ p.2 ∧ p.2 ≤ T) (hT : 0 ≤ T) : 0 ≤ (mlkI m k).getD 0 ∧ (mlkI m k).getD 0 ≤ T := by
  unfold mlkI
  cases hf : m.find? fun p => decide (k = p.1) with
  | none => simpa using hT
  | some p =>
    have := h p (List.mem_of_find?_eq_some hf)
    simp
    omega
theorem mlk_pos {m : List (Int × Int)} (h : ∀ p ∈ m, 1 ≤ p.2) (k : Int) : decide ((mlkI m k).getD 0 > 0) = (keysI m).contains k := by
  unfold mlkI keysI
  rw [Bool.eq_iff_iff]
  simp only [decide_eq_true_eq, List.contains_iff_mem, List.mem_map]
  cases hf : m.find? fun p => decide (k = p.1) with
  | none =>
    simp only [Option.map_none, Option.getD_none, Int.lt_irrefl, gt_iff_lt, false_iff]
    rintro ⟨p, hp, e⟩
    have := List.find?_eq_none.1 hf p hp
    simp [e] at this
  | some p =>
    have hm := List.mem_of_find?_eq_some hf
    have hk : k = p.1 := by simpa using List.find?_some hf
    have := h p hm
    simp only [Option.map_some, Option.getD_some]
    exact ⟨fun _ => ⟨p, hm, hk.symm⟩, fun _ => by omega⟩
theorem mem_stepIn {c x : Int} : ∀ {can next : List Int}, x ∈ stepIn c can next ↔ x ∈ next ∨ ∃ b ∈ can, x = orI b c
  | [], next => by simp [stepIn]
  | b :: can, next => by
    have : stepIn c (b :: can) next = stepIn c can (addN next (orI b c)) := rfl
    rw [this, mem_stepIn, mem_addN]
    simp only [List.mem_cons, exists_eq_or_imp, or_assoc]
theorem mem_stepC {can l : List Int} {x : Int} : x ∈ stepC can l ↔ ∃ c ∈ l, ∃ b ∈ can, x = orI b c := by
  have : ∀ (l next : List Int), x ∈ l.foldl (fun next c => stepIn c can next) next ↔ x ∈ next ∨ ∃ c ∈ l, ∃ b ∈ can, x = orI b c := by
    intro l
    induction l with
    | nil => intro next; simp
    | cons c l ih =>
      intro next
      rw [List.foldl_cons, ih, mem_stepIn]
      simp only [List.mem_cons, exists_eq_or_imp, or_assoc]
  have := this l []
  simpa [stepC] using this
theorem mem_caseV {w : Wsh} {i m x : Int} : x ∈ caseV w i m ↔ ∃ n ∈ lens w i, x = covV w i n m := by
  have : ∀ (l own : List Int), x ∈ l.foldl (fun own n => addN own (covV w i n m)) own ↔ x ∈ own ∨ ∃ n ∈ l, x = covV w i n m := by
    intro l
    induction l with
    | nil => intro own; simp
    | cons n l ih =>
      intro own
      rw [List.foldl_cons, ih, mem_addN]
      simp only [List.mem_cons, exists_eq_or_imp, or_assoc]
  have := this (lens w i) []
  simpa [caseV] using this
def OkM (m : List (Int × Int)) (T : Int) (q : Int → Prop) : Prop := (keysI m).Nodup ∧ (∀ x, x ∈ keysI m ↔ q x) ∧ ∀ p ∈ m, 1 ≤ p.2 ∧ p.2 ≤ T
theorem OkM.add {m : List (Int × Int)} {T : Int} {q q' : Int → Prop} (h : OkM m T q) {k : Int} (hT : 0 ≤ T) (hq : ∀ x, q' x ↔ q x ∨ x = k) : OkM (msetI m k ((mlkI m k).getD 0 + 1)) (T + 1) q' := by
  obtain ⟨h1, h2, h3⟩ := h
  obtain ⟨k1, k2⟩ := keys_mset k ((mlkI m k).getD 0 + 1) m
  refine ⟨k1 h1, fun x => by rw [k2, h2, hq], fun p hp => ?_⟩
  have hb := mlk_bound (k := k) h3 hT
  rcases mem_mset hp with hp | hp
  · have := h3 p hp; omega
  · omega
theorem OkM.weak {m : List (Int × Int)} {T T' : Int} {q q' : Int → Prop} (h : OkM m T q) (hT : T ≤ T') (hq : ∀ x, q' x ↔ q x) : OkM m T' q' :=
  ⟨h.1, fun x => by rw [h.2.1, hq], fun p hp => by have := h.2.2 p hp; omega⟩
abbrev mendedP (x : Option Shp × List Int × Int) : Prop := ∃ w, isShop x.1 w ∧ x.2.1.length < 2 ^ 63 ∧ (∀ i ∈ x.2.1, isSpareV w i = true) ∧ isMakeV w x.2.2 = true
def shMended (x : Option Shp × List Int × Int) : M (List (Int × Int)) :=
  ⟨mendedP x, fun m => (keysI m).Nodup ∧ (∀ p ∈ m, 1 ≤ p.2) ∧ ∀ w, x.1 = some (w, lensAll w) → ∀ s, s ∈ keysI m ↔ s ∈ canV (casesV w x.2.2) x.2.1⟩
theorem casesV_get {w : Wsh} {i m : Int} (h : isSpareV w i = true) : List.getD (casesV w m) i.toNat [] = caseV w i m := by
  rw [isSpareV_iff] at h
  have h1 : i.toNat < w.1.length := by omega
  have e : ((i.toNat : Nat) : Int) = i := by omega
  simp [casesV, List.getD_eq_getElem?_getD, h1, e]
theorem canV_take {each : List (List Int)} {list : List Int} {j : Nat} (h : j < list.length) : canV each (list.take (j + 1)) = stepC (canV each (list.take j)) (each.getD (list[j]).toNat []) := by
  have e : list.take (j + 1) = list.take j ++ [list[j]] := by rw [List.take_add_one, List.getElem?_eq_getElem h]; rfl
  unfold canV
  rw [e, List.foldl_append]
  rfl
theorem canV_fine {w : Wsh} (hw : goodW w) {m : Int} (hm : isMakeV w m = true) : ∀ (list can : List Int), (∀ i ∈ list, isSpareV w i = true) → Fine can → Fine (list.foldl (fun can i => stepC can ((casesV w m).getD i.toNat [])) can)
  | [], _, _, h => h
  | i :: list, can, hl, h => by
    refine canV_fine hw hm list _ (fun j hj => hl j (List.mem_cons_of_mem _ hj)) (stepC_fine h.2 ?_)
    rw [casesV_get (hl i (by simp))]
    exact (caseV_fine hw hm i).2
theorem fine0 : Fine [0] := ⟨by simp, fun x hx => by simp at hx; omega⟩
end Go.Fer
namespace Go.Fer
open M (Step)
set_option linter.unusedVariables false
set_option linter.unusedSimpArgs false
theorem map_len {sets : List (Int × Int)} {can : List Int} {T : Int} (hs : OkM sets T fun x => x ∈ can) (hf : Fine can) : sets.length ≤ 16 := by
  have : (keysI sets).length ≤ 16 := nodup_bound 16 _ hs.1 fun x hx => by have := hf.2 x ((hs.2.1 x).1 hx); omega
  simpa [keysI] using this
theorem take_mem {α : Type} {l : List α} {k : Nat} (h : k < l.length) {p : α → Prop} : (∃ n ∈ l.take (k + 1), p n) ↔ (∃ n ∈ l.take k, p n) ∨ p l[k] := by
  have e : l.take (k + 1) = l.take k ++ [l[k]] := by rw [List.take_add_one, List.getElem?_eq_getElem h]; rfl
  rw [e]
  simp only [List.mem_append, List.mem_singleton]
  constructor
  · rintro ⟨n, hn | rfl, hp⟩
    · exact .inl ⟨n, hn, hp⟩
    · exact .inr hp
  · rintro (⟨n, hn, hp⟩ | hp)
    · exact ⟨n, .inl hn, hp⟩
    · exact ⟨_, .inr rfl, hp⟩
theorem eMended (w : Wsh) (list : List Int) (m : Int) (hw : goodW w) (hl : list.length < 2 ^ 63) (hs : ∀ i ∈ list, isSpareV w i = true) (hm : isMakeV w m = true) :
    M.Ret (S_parts_shop_mended fcFitsAt.sh (some (w, lensAll w), list, m)) fun r => ∃ T, OkM r T fun x => x ∈ canV (casesV w m) list := by
  have r1 := isMakeV_iff.1 hm
  have hsl := slots_le hw hm
  have hg : List.getD w.2.1 m.toNat [] = slotsOfV w m := rfl
  unfold S_parts_shop_mended
  rw [M.ret_bind]
  refine M.ret_loop_n (p := fun r => M.Ret (Step.go _ r) _) list.length (fun j s => ∃ sets : List (Int × Int), s = (some (w, lensAll w), m, sets, list, (list.length : Int), (j : Int), ()) ∧ ∃ T, OkM sets T fun x => x ∈ canV (casesV w m) (list.take j)) ?_ ?_ ?_
  · refine ⟨[(0, 1)], rfl, 1, by simp [keysI], fun x => ?_, fun p hp => ?_⟩
    · simp [keysI, canV]
    · simp at hp; rw [hp]; exact ⟨Int.le_refl _, Int.le_refl _⟩
  · rintro j hj s ⟨sets, rfl, T, hok⟩
    have hi := hs list[j] (List.getElem_mem hj)
    have hir := isSpareV_iff.1 hi
    have hll := lens_len hw hi
    have hfc : Fine (canV (casesV w m) (list.take j)) := canV_fine hw hm _ _ (fun i hi => hs i (List.mem_of_mem_take hi)) fine0
    have hsz := map_len hok hfc
    have hwj := wrap64 (n := (j : Int) + 1) (by omega) (by omega)
    have r2 : 0 ≤ list[j] ∧ list[j] < ((lensAll w).length : Int) := by rw [lensAll_len]; exact hir
    simp only [ofNat_def, lt_len hj, if_true, getD_nat hj, in_len hj, M.req_True, Option.isSome_some, Option.getD_some, M.req_true r2, lensAll_get hi, M.ret_bind]
    generalize hI : list[j] = i at hi hll
    refine M.ret_loop_n (p := fun r => M.Ret (Step.go _ r) _) (lens w i).length (fun k s => ∃ next : List (Int × Int), s = (some (w, lensAll w), m, sets, i, list, (list.length : Int), (j : Int), lens w i, ((lens w i).length : Int), (k : Int), next, ()) ∧
      OkM next (16 * (k : Int)) fun x => ∃ n ∈ (lens w i).take k, ∃ b ∈ canV (casesV w m) (list.take j), x = orI b (covV w i n m)) ?_ ?_ ?_
    · exact ⟨[], rfl, by simp [keysI], fun x => by simp [keysI], fun p hp => by cases hp⟩
    · rintro k hk s ⟨next, rfl, hnx⟩
      have hwk := wrap64 (n := (k : Int) + 1) (by omega) (by omega)
      simp only [lt_len hk, if_true, getD_nat hk, in_len hk, M.req_True, Option.isSome_some, Option.getD_some, M.req_true r1, hg]
      generalize hN : (lens w i)[k] = n
      rw [M.loop_list (List.range (slotsOfV w m).length) (fun q (b : Nat) => (some (w, lensAll w), m, sets, i, n, (b : Int), list, (list.length : Int), (j : Int), lens w i, ((lens w i).length : Int), (k : Int), ((slotsOfV w m).length : Int), (q : Int), next, ())) (fun (q : Nat) b => .next (if fitsAt w i n m (q : Int) = true then b ||| 2 ^ q else b))
        (fun b => .next (some (w, lensAll w), m, sets, i, (b : Int), list, (list.length : Int), (j : Int), lens w i, ((lens w i).length : Int), (k : Int), next, ())) (fun q b => b < 2 ^ 4) 0 ?_ ?_ ?_ ?_]
      · rw [foldS_next]
        simp only [M.bind_pure, M.go_next, M.ret_bind]
        show M.Ret (M.loop _ (some (w, lensAll w), m, sets, i, covV w i n m, list, (list.length : Int), (j : Int), lens w i, ((lens w i).length : Int), (k : Int), next, (none, sets), ())) _
        have hcov := covV_16 hw hm i n
        refine M.ret_loop_n (p := fun r => M.Ret (Step.go _ r) _) sets.length (fun q s => ∃ (nx : List (Int × Int)) (cur : Option (Int × Int)) (rest D : List (Int × Int)), s = (some (w, lensAll w), m, sets, i, covV w i n m, list, (list.length : Int), (j : Int), lens w i, ((lens w i).length : Int), (k : Int), nx, (cur, rest), ()) ∧
          rest.length = sets.length - q ∧ (∀ p, p ∈ sets ↔ p ∈ D ∨ p ∈ rest) ∧ OkM nx (16 * (k : Int) + (q : Int)) fun x => (∃ n ∈ (lens w i).take k, ∃ b ∈ canV (casesV w m) (list.take j), x = orI b (covV w i n m)) ∨ ∃ p ∈ D, x = orI p.1 (covV w i n m)) ?_ ?_ ?_
        · exact ⟨next, none, sets, [], rfl, by simp, fun p => by simp, hnx.weak (by omega) fun x => by simp⟩
        · rintro q hq s ⟨nx, cur, rest, D, rfl, hrl, hmem, hok2⟩
          simp only [M.ret_bind]
          refine ⟨trivial, fun y hy => ?_⟩
          cases y with
          | none =>
            have : rest = [] := hy
            rw [this] at hrl
            simp at hrl
            omega
          | some r =>
            have hr : r < rest.length := hy
            have hcur : nxtC cur rest (some r) = some rest[r] := by simp [nxtC, hr]
            have hmr : rest[r] ∈ sets := (hmem _).2 (.inr (List.getElem_mem hr))
            have hk16 : 0 ≤ rest[r].1 ∧ rest[r].1 < 16 := hfc.2 _ ((hok.2.1 _).1 (List.mem_map.2 ⟨_, hmr, rfl⟩))
            have hlk := mlk_bound (k := orI rest[r].1 (covV w i n m)) hok2.2.2 (by omega)
            have hwv := wrap64 (n := (mlkI nx (orI rest[r].1 (covV w i n m))).getD 0 + 1) (by omega) (by omega)
            simp only [Option.isSome_some, if_true, hcur, M.req_True, M.bind_pure, M.ret_pure, Option.map_some, Option.getD_some, ior_16 hk16 hcov, add_def]
            refine ⟨_, some rest[r], rest.eraseIdx r, rest[r] :: D, rfl, by rw [List.length_eraseIdx, if_pos hr]; omega, fun p => ?_, ?_⟩
            · rw [hmem, List.mem_cons]
              have hp : p ∈ rest ↔ p = rest[r] ∨ p ∈ rest.eraseIdx r := by
                have e : rest = rest.take r ++ rest[r] :: rest.drop (r + 1) := by rw [List.getElem_cons_drop, List.take_append_drop]
                rw [List.eraseIdx_eq_take_drop_succ]
                constructor
                · intro h
                  rw [e] at h
                  simp only [List.mem_append, List.mem_cons] at h ⊢
                  rcases h with h | h | h
                  · exact .inr (.inl h)
                  · exact .inl h
                  · exact .inr (.inr h)
                · rintro (rfl | h)
                  · exact List.getElem_mem hr
                  · rcases List.mem_append.1 h with h | h
                    · exact List.mem_of_mem_take h
                    · exact List.mem_of_mem_drop h
              rw [hp, or_assoc, or_left_comm]
            · show OkM (msetI nx (orI rest[r].1 (covV w i n m)) (IntKind.i64.wrap ((mlkI nx (orI rest[r].1 (covV w i n m))).getD 0 + 1))) _ _
              rw [hwv]
              refine (hok2.add (by omega) (q' := fun x => (∃ n ∈ (lens w i).take k, ∃ b ∈ canV (casesV w m) (list.take j), x = orI b (covV w i n m)) ∨ ∃ p ∈ rest[r] :: D, x = orI p.1 (covV w i n m)) fun x => ?_).weak (by omega) fun x => Iff.rfl
              simp only [List.mem_cons, exists_eq_or_imp]
              rw [or_comm (a := x = _), or_assoc]
        · rintro s ⟨nx, cur, rest, D, rfl, hrl, hmem, hok2⟩
          have hr0 : rest = [] := List.eq_nil_of_length_eq_zero (by omega)
          subst hr0
          simp only [M.ret_bind]
          refine ⟨trivial, fun y hy => ?_⟩
          cases y with
          | some r => exact absurd (show r < 0 from hy) (by omega)
          | none =>
            simp only [Option.isSome_none, Bool.false_eq_true, if_false, M.bind_pure, M.ret_pure, M.go_next, add_def, hwk]
            refine ⟨nx, rfl, hok2.weak (by omega) fun x => ?_⟩
            rw [take_mem hk, hN]
            refine or_congr Iff.rfl ⟨?_, ?_⟩
            · rintro ⟨b, hb, rfl⟩
              obtain ⟨p, hp, rfl⟩ := List.mem_map.1 ((hok.2.1 b).2 hb)
              exact ⟨p, by simpa using (hmem p).1 hp, rfl⟩
            · rintro ⟨p, hp, rfl⟩
              exact ⟨p.1, (hok.2.1 _).1 (List.mem_map.2 ⟨p, (hmem p).2 (.inl hp), rfl⟩), rfl⟩
      · rfl
      · decide
      · intro q hq b hb
        have hq : q < (slotsOfV w m).length := by simpa using hq
        have hb : b < 16 := by simpa using hb
        have hwq := wrap64 (n := (q : Int) + 1) (by omega) (by omega)
        have hp : goodW w ∧ isSpareV w i = true ∧ isSlotOfV w m (q : Int) = true := ⟨hw, hi, isSlotOfV_nat hm hq⟩
        have h2 : 2 ^ q < 2 ^ 4 := Nat.pow_lt_pow_right (by omega) (by omega)
        have h2' : 2 ^ q < 16 := by simpa using h2
        have hqn : (0 : Int) ≤ (q : Int) := by omega
        have ho : ior .i64 (b : Int) ((2 ^ q : Nat) : Int) = orI (b : Int) ((2 ^ q : Nat) : Int) := by
          generalize 2 ^ q = P at h2'
          exact ior_eq (by omega) (by omega) (by omega) (by omega)
        have ho2 : orI (b : Int) ((2 ^ q : Nat) : Int) = ((b ||| 2 ^ q : Nat) : Int) := by unfold orI; simp only [Int.toNat_natCast]
        refine ⟨?_, fun b' hb' => ?_⟩
        · simp only [lt_len hq, if_true, FC.sh, M.bind_det, Option.isSome_some, Option.getD_some, M.req_True, M.req_true hp, List.getElem_range]
          by_cases hf : fitsAt w i n m (q : Int) = true
          · simp only [hf, if_true, M.req_true hqn, ishl_one (k := q) (by omega), ho, ho2, M.bind_pure, M.go_next, add_def, hwq]
            rfl
          · simp only [hf, Bool.false_eq_true, if_false, M.bind_pure, M.go_next, add_def, hwq]
            rfl
        · cases hb'
          split
          · exact Nat.or_lt_two_pow (n := 4) (by simpa using hb) (by simpa using h2')
          · simpa using hb
      · intro b hb
        simp only [List.length_range, Int.lt_irrefl, decide_false, Bool.false_eq_true, if_false, M.bind_pure]
    · rintro s ⟨next, rfl, hnx⟩
      simp only [Int.lt_irrefl, decide_false, Bool.false_eq_true, if_false, M.bind_pure, M.ret_pure, M.go_next, add_def, hwj]
      refine ⟨next, rfl, _, hnx.weak (Int.le_refl _) fun x => ?_⟩
      rw [canV_take hj, mem_stepC, hI, casesV_get hi]
      constructor
      · rintro ⟨c, hc, b, hb, rfl⟩
        obtain ⟨n, hn, rfl⟩ := mem_caseV.1 hc
        exact ⟨n, by rw [List.take_length]; exact hn, b, hb, rfl⟩
      · rintro ⟨n, hn, b, hb, rfl⟩
        rw [List.take_length] at hn
        exact ⟨_, mem_caseV.2 ⟨n, hn, rfl⟩, b, hb, rfl⟩
  · rintro s ⟨sets, rfl, T, hok⟩
    rw [List.take_length] at hok
    simp only [ofNat_def, Int.lt_irrefl, decide_false, Bool.false_eq_true, if_false, M.bind_pure, M.ret_pure, M.go_next]
    exact ⟨T, hok⟩
theorem sMended (x) : M.le (S_parts_shop_mended fcFitsAt.sh x) (shMended x) := fun h => by
  obtain ⟨o, list, m⟩ := x
  obtain ⟨w, ⟨ho, hw⟩, hl, hs, hm⟩ := h
  change o = _ at ho
  subst ho
  obtain ⟨h1, h2⟩ := eMended w list m hw hl hs hm
  refine ⟨h1, fun r hr => ?_⟩
  obtain ⟨T, k1, k2, k3⟩ := h2 r hr
  refine ⟨k1, fun p hp => (k3 p hp).1, fun w' hw' s => ?_⟩
  cases hw'
  exact k2 s
end Go.Fer
namespace Go.Fer
open M (Step)
set_option linter.unusedVariables false
set_option linter.unusedSimpArgs false
theorem nodup_len_eq {l m : List Int} (hl : l.Nodup) (hm : m.Nodup) (h : ∀ x, x ∈ l ↔ x ∈ m) : l.length = m.length := by
  have le : ∀ {l m : List Int}, l.Nodup → (∀ x ∈ l, x ∈ m) → l.length ≤ m.length := by
    intro l
    induction l with
    | nil => intro m _ _; simp
    | cons x l ih =>
      intro m hn hs
      rw [List.nodup_cons] at hn
      have hx := hs x (by simp)
      have := ih (m := m.erase x) hn.2 fun y hy => (List.mem_erase_of_ne fun (e : y = x) => hn.1 (e ▸ hy)).2 (hs y (List.mem_cons_of_mem _ hy))
      rw [List.length_erase_of_mem hx] at this
      have := List.length_pos_of_mem hx
      simp only [List.length_cons]
      omega
  exact Nat.le_antisymm (le hl fun x hx => (h x).1 hx) (le hm fun x hx => (h x).2 hx)
theorem count_one {l : List Int} (h : l.Nodup) (c : Int) : ((l.countP fun b => decide (b = c)) : Int) = if l.contains c = true then 1 else 0 := by
  induction l with
  | nil => simp
  | cons x l ih =>
    rw [List.nodup_cons] at h
    have ih := ih h.2
    rw [List.countP_cons]
    by_cases hx : x = c
    · subst hx
      have : l.contains x = false := by simpa using h.1
      simp only [this, Bool.false_eq_true, if_false] at ih
      have e : (x :: l).contains x = true := by simp
      simp only [e, if_true, decide_true]
      omega
    · have e : (x :: l).contains c = l.contains c := by
        rw [List.contains_cons]
        have : (c == x) = false := by simp; exact fun e => hx e.symm
        rw [this, Bool.false_or]
      rw [e]
      simp [hx, ih]
abbrev fcShopMends : FC := ⟨.prod tShp (.prod tInts tI), tI, mendedP, fun x => mendV ((x.1.getD (([], [], 0, []), [])).1) x.2.1 x.2.2⟩
theorem sShopMends (x) : M.le (S_parts_shop_mends fcIs.sh shMended x) (fcShopMends.sh x) := M.le_detR fun h => by
  have hp := h
  obtain ⟨o, list, m⟩ := x
  obtain ⟨w, ⟨ho, hw⟩, hl, hs, hm⟩ := h
  change o = _ at ho
  subst ho
  change list.length < 2 ^ 63 at hl
  change ∀ i ∈ list, isSpareV w i = true at hs
  change isMakeV w m = true at hm
  have r1 := isMakeV_iff.1 hm
  have hsl := slots_le hw hm
  have hg : List.getD w.2.1 m.toNat [] = slotsOfV w m := rfl
  have hfc : Fine (canV (casesV w m) list) := canV_fine hw hm _ _ hs fine0
  unfold S_parts_shop_mends
  rw [M.ret_bind]
  refine ⟨hp, fun r ⟨h1, h2, h3⟩ => ?_⟩
  have h3 := h3 w rfl
  have hnn : (0 : Int) ≤ ((slotsOfV w m).length : Int) := by omega
  have hpw : 2 ^ (slotsOfV w m).length ≤ 16 := Nat.le_trans (Nat.pow_le_pow_right (by omega) hsl) (by decide : 2 ^ 4 ≤ 16)
  have hfu : IntKind.i64.wrap (((2 ^ (slotsOfV w m).length : Nat) : Int) - 1) = fullV w m := by
    unfold fullV
    generalize 2 ^ (slotsOfV w m).length = P at hpw
    exact wrap64 (by omega) (by omega)
  have hlen : r.length = (canV (casesV w m) list).length := by
    have := nodup_len_eq h1 hfc.1 h3
    simpa [keysI] using this
  have hc := mlk_pos h2 (fullV w m)
  have hcc : (keysI r).contains (fullV w m) = (canV (casesV w m) list).contains (fullV w m) := by
    rw [Bool.eq_iff_iff]
    simp only [List.contains_iff_mem]
    exact h3 _
  have hll : lenLe (canV (casesV w m) list).length := by have := hfc.len; unfold lenLe; omega
  have hmv : mendV w list m = isV (if (canV (casesV w m) list).contains (fullV w m) = true then 1 else 0) ((canV (casesV w m) list).length : Int) := by
    unfold mendV mendsV
    rw [count_one hfc.1]
  simp only [Option.isSome_some, Option.getD_some, M.req_True, ofNat_def, M.req_true r1, hg, M.req_true hnn, ishl_one (k := (slotsOfV w m).length) (by omega), hfu]
  show M.Ret (M.bind (if decide ((mlkI r (fullV w m)).getD 0 > 0) = true then _ else _) _) _
  rw [hc, hcc, hmv]
  by_cases hf : (canV (casesV w m) list).contains (fullV w m) = true
  · simp only [hf, if_true, M.bind_pure, M.go_next, hlen, M.req_true hll, FC.sh, M.bind_det, M.req_True, M.ret_pure]
  · simp only [hf, Bool.false_eq_true, if_false, M.bind_pure, M.go_next, hlen, M.req_true hll, FC.sh, M.bind_det, M.req_True, M.ret_pure]
abbrev fcList : FC := ⟨.int .u64, tInts, fun x => 0 ≤ x ∧ x < 1024, fun x => bitsL 10 x.toNat⟩
theorem eList (b : Nat) (h : b < 1024) : S_parts_list (b : Int) = M.pure (bitsL 10 b) := by
  unfold S_parts_list
  rw [M.loop_list (List.range 10) (fun i (l : List Int) => ((b : Int), (i : Int), l, ())) (fun (i : Nat) l => .next (if decide (b / 2 ^ i % 2 = 1) = true then l ++ [(i : Int)] else l)) (fun l => .next (l, ())) (fun i l => l.length ≤ i) [] ?_ ?_ ?_ ?_]
  · rw [foldS_next, foldl_filter_map]
    simp only [M.bind_pure, M.go_next, List.nil_append]
    rfl
  · rfl
  · simp
  · intro i hi l hl
    have hi : i < 10 := by simpa using hi
    have hwi := wrap64 (n := (i : Int) + 1) (by omega) (by omega)
    have hii : (0 : Int) ≤ (i : Int) := by omega
    have hi10 : (i : Int) < 10 := by omega
    have hll : lenLe (l.length + (0 + 1)) := by unfold lenLe; omega
    have hdiv : b / 2 ^ i ≤ b := Nat.div_le_self _ _
    have hand := iand_oneU (a := b / 2 ^ i) (by omega)
    have hdec : decide (((b / 2 ^ i % 2 : Nat) : Int) = 1) = decide (b / 2 ^ i % 2 = 1) := by rw [decide_eq_decide]; omega
    refine ⟨?_, fun b' hb' => ?_⟩
    · simp only [hi10, decide_true, if_true, List.getElem_range, M.req_true hii, ishr_nat (k := .u64) rfl (a := b) (i := i) (by omega), hand, hdec]
      by_cases hd : decide (b / 2 ^ i % 2 = 1) = true
      · simp only [hd, if_true, add_defN, M.req_true hll, M.bind_pure, M.go_next, add_def, hwi]
        rfl
      · simp only [hd, Bool.false_eq_true, if_false, M.bind_pure, M.go_next, add_def, hwi]
        rfl
    · cases hb'
      split <;> (try simp only [List.length_append, List.length_singleton]) <;> omega
  · intro l hl
    simp
theorem eListI (x : Int) (h : 0 ≤ x ∧ x < 1024) : S_parts_list x = M.pure (bitsL 10 x.toNat) := by
  have := eList x.toNat (by omega)
  rwa [Int.toNat_of_nonneg h.1] at this
theorem sList (x) : M.le (S_parts_list x) (fcList.sh x) := M.le_det fun h => eListI x h
def onesP (x : Int) : Int :=
  let a := IntKind.wrap .u64 (iand .u64 (ishr .u64 x 1) 6148914691236517205 + iand .u64 x 6148914691236517205)
  let a := IntKind.wrap .u64 (iand .u64 (ishr .u64 a 2) 3689348814741910323 + iand .u64 a 3689348814741910323)
  let a := iand .u64 (IntKind.wrap .u64 (ishr .u64 a 4 + a)) 1085102592571150095
  let a := IntKind.wrap .u64 (a + ishr .u64 a 8)
  let a := IntKind.wrap .u64 (a + ishr .u64 a 16)
  let a := IntKind.wrap .u64 (a + ishr .u64 a 32)
  iand .i64 (IntKind.wrap .i64 a) 127
def onesChk : Nat → Bool
  | 0 => true
  | n + 1 => decide (onesP (n : Int) = ((bitsL 10 n).length : Int)) && onesChk n
theorem onesChk_ok : onesChk 1024 = true := by decide +kernel
theorem ones_eq : ∀ (N n : Nat), onesChk N = true → n < N → onesP (n : Int) = ((bitsL 10 n).length : Int)
  | 0, n, _, h => by omega
  | N + 1, n, hc, h => by
    simp only [onesChk, Bool.and_eq_true, decide_eq_true_eq] at hc
    by_cases e : n = N
    · rw [e]; exact hc.1
    · exact ones_eq N n hc.2 (by omega)
abbrev fcOnes : FC := ⟨.int .u64, tI, fun x => 0 ≤ x ∧ x < 1024, fun x => ((bitsL 10 x.toNat).length : Int)⟩
theorem eOnes (x : Int) (h : 0 ≤ x ∧ x < 1024) : S_math_bits_OnesCount64 x = M.pure ((bitsL 10 x.toNat).length : Int) := by
  have := ones_eq 1024 x.toNat onesChk_ok (by omega)
  rw [Int.toNat_of_nonneg h.1] at this
  rw [← this]
  unfold S_math_bits_OnesCount64
  simp
  rfl
theorem sOnes64 (x) : M.le (S_math_bits_OnesCount64 x) (fcOnes.sh x) := M.le_det fun h => eOnes x h
theorem sOnes (c85) (x) : M.le (S_math_bits_OnesCount c85 fcOnes.sh x) (fcOnes.sh x) := M.le_det fun h => by
  unfold S_math_bits_OnesCount
  simp only [FC.sh, M.bind_det]
  rw [M.req_true (by exact h)]
end Go.Fer
namespace Go.Fer
open M (Step)
set_option linter.unusedVariables false
set_option linter.unusedSimpArgs false
theorem ishl_oneU {k : Nat} (h : k < 63) : ishl .u64 1 (k : Int) = ((2 ^ k : Nat) : Int) := by
  show IntKind.u64.wrap (1 * 2 ^ (min ((k : Int).toNat) 64)) = _
  have e : min ((k : Int).toNat) 64 = k := by omega
  rw [e, Int.one_mul]
  have h2 : (2 : Nat) ^ k ≤ 2 ^ 62 := Nat.pow_le_pow_right (by omega) (by omega)
  have e3 : (2 : Nat) ^ 62 = 4611686018427387904 := by decide
  have e2 : (2 : Int) ^ k = ((2 ^ k : Nat) : Int) := by simp
  rw [e2]
  rw [e3] at h2
  generalize 2 ^ k = p at h2
  exact wrapU64 (by omega) (by omega)
theorem bitsL_ext {n m b : Nat} (h : b < 2 ^ n) (hm : n ≤ m) : bitsL m b = bitsL n b := by
  unfold bitsL
  obtain ⟨d, rfl⟩ := Nat.exists_eq_add_of_le hm
  rw [List.range_add, List.filter_append]
  have : (List.map (fun x => n + x) (List.range d)).filter (fun i => decide (b / 2 ^ i % 2 = 1)) = [] := by
    rw [List.filter_eq_nil_iff]
    intro i hi
    obtain ⟨j, _, rfl⟩ := List.mem_map.1 hi
    have h2 : b / 2 ^ (n + j) = 0 := by
      apply Nat.div_eq_of_lt
      exact Nat.lt_of_lt_of_le h (Nat.pow_le_pow_right (by omega) (by omega))
    simp [h2]
  rw [this, List.append_nil]
def okB (w : Wsh) (b : Nat) : Bool := mendsAllV w (bitsL w.1.length b)
def upB (w : Wsh) (k N : Nat) : List Int := ((List.range N).filter fun b => decide ((bitsL w.1.length b).length = k) && okB w b).map fun (b : Nat) => (b : Int)
def upK (w : Wsh) (K : Nat) : List Int := (List.range K).flatMap fun k => upB w k (2 ^ w.1.length)
def seqV (w : Wsh) : List Int := upK w (w.1.length + 1)
theorem upK_succ (w : Wsh) (k : Nat) : upK w (k + 1) = upK w k ++ upB w k (2 ^ w.1.length) := by
  unfold upK
  rw [List.range_succ, List.flatMap_append]
  simp
theorem upB_succ (w : Wsh) (k b : Nat) : upB w k (b + 1) = upB w k b ++ if (decide ((bitsL w.1.length b).length = k) && okB w b) = true then [(b : Int)] else [] := by
  unfold upB
  rw [List.range_succ, List.filter_append, List.map_append]
  congr 1
  rw [List.filter_cons, List.filter_nil]
  cases (decide ((bitsL w.1.length b).length = k) && okB w b) <;> simp
theorem upB_pre (w : Wsh) (k : Nat) {b N : Nat} (h : b ≤ N) : ∃ t, upB w k N = upB w k b ++ t := by
  obtain ⟨d, rfl⟩ := Nat.exists_eq_add_of_le h
  exact ⟨_, by unfold upB; rw [List.range_add, List.filter_append, List.map_append]⟩
theorem upK_pre (w : Wsh) {k K : Nat} (h : k ≤ K) : ∃ t, upK w K = upK w k ++ t := by
  obtain ⟨d, rfl⟩ := Nat.exists_eq_add_of_le h
  exact ⟨_, by unfold upK; rw [List.range_add, List.flatMap_append]⟩
theorem seq_get {w : Wsh} {k b : Nat} (hk : k < w.1.length + 1) (hb : b < 2 ^ w.1.length) (h : (decide ((bitsL w.1.length b).length = k) && okB w b) = true) :
    (seqV w)[(upK w k ++ upB w k b).length]? = some (b : Int) := by
  obtain ⟨t, ht⟩ := upK_pre w (show k + 1 ≤ w.1.length + 1 from hk)
  obtain ⟨u, hu⟩ := upB_pre w k (show b + 1 ≤ 2 ^ w.1.length from hb)
  have e : seqV w = (upK w k ++ upB w k b) ++ ((b : Int) :: (u ++ t)) := by
    unfold seqV
    rw [ht, upK_succ, hu, upB_succ, h]
    simp
  rw [e, List.getElem?_append_right (Nat.le_refl _)]
  simp
theorem upB_len (w : Wsh) (k N : Nat) : (upB w k N).length ≤ N := by
  unfold upB
  rw [List.length_map]
  exact Nat.le_trans (List.length_filter_le _ _) (by simp)
theorem rLists (w : Wsh) (l : Nat) (hw : goodW w) :
    M.Ret (S_parts_shop_lists fcOnes.sh fcList.sh fcShopMends.sh (some (w, lensAll w), l, (l, seqV w, 0, false), ())) fun y => y.1.1 = l ∧ y.1.2.1 = seqV w ∧ (y.1.2.2.2 = false → y.1.2.2.1 = (seqV w).length) := by
  have hhd := wV_head hw.2
  have hpw : 2 ^ w.1.length ≤ 2 ^ 10 := Nat.pow_le_pow_right (by omega) hhd.1
  have hpw : 2 ^ w.1.length ≤ 1024 := hpw
  have hw1 := wrap64 (n := (w.1.length : Int) + 1) (by omega) (by omega)
  have hnn : (0 : Int) ≤ (w.1.length : Int) := by omega
  unfold S_parts_shop_lists
  simp only [Option.isSome_some, Option.getD_some, M.req_True, ofNat_def, add_def, hw1]
  refine M.ret_loop_n (w.1.length + 1) (fun k s => s = (some (w, lensAll w), l, (w.1.length : Int) + 1, (k : Int), (l, seqV w, (upK w k).length, false), ())) rfl ?_ ?_
  · rintro k hk s rfl
    have hwk := wrap64 (n := (k : Int) + 1) (by omega) (by omega)
    have hlt : decide ((k : Int) < (w.1.length : Int) + 1) = true := by simp; omega
    simp only [hlt, if_true, Option.isSome_some, Option.getD_some, M.req_True, M.req_true hnn, ishl_oneU (k := w.1.length) (by omega), M.ret_bind]
    refine M.ret_loop_n (p := fun r => M.Ret (Step.go _ r) _) (2 ^ w.1.length) (fun b s => s = (some (w, lensAll w), l, (k : Int), (w.1.length : Int) + 1, (k : Int), ((2 ^ w.1.length : Nat) : Int), (b : Int), (l, seqV w, (upK w k ++ upB w k b).length, false), ())) ?_ ?_ ?_
    · show _ = _
      simp [upB]
    · rintro b hb s rfl
      have hwb := wrapU64 (n := (b : Int) + 1) (by omega) (by omega)
      have hltb : decide ((b : Int) < ((2 ^ w.1.length : Nat) : Int)) = true := by
        generalize 2 ^ w.1.length = P at *
        simpa using hb
      have hbo : (0 : Int) ≤ (b : Int) ∧ (b : Int) < 1024 := by
        generalize 2 ^ w.1.length = P at *
        omega
      have hbe : bitsL 10 ((b : Int).toNat) = bitsL w.1.length b := by
        rw [Int.toNat_natCast]
        exact bitsL_ext hb hhd.1
      simp only [hltb, if_true, FC.sh, M.bind_det, M.req_true hbo, hbe]
      by_cases hc : (bitsL w.1.length b).length = k
      · have hne : decide (((bitsL w.1.length b).length : Int) ≠ (k : Int)) = false := by simp [hc]
        simp only [hne, Bool.false_eq_true, if_false, Option.isSome_some, Option.getD_some, M.req_True]
        rw [M.loop_listT (List.range w.2.1.length) (fun m (_ : Unit) => (some (w, lensAll w), l, (k : Int), (b : Int), (w.1.length : Int) + 1, (k : Int), ((2 ^ w.1.length : Nat) : Int), (b : Int), ((w.2.1.length : Nat) : Int), (m : Int), (l, seqV w, (upK w k ++ upB w k b).length, false), ()))
          (fun (m : Nat) u => if decide (mendV w (bitsL w.1.length b) (m : Int) ≠ 1) = true then .done (.done (.next (some (w, lensAll w), l, (k : Int), (w.1.length : Int) + 1, (k : Int), ((2 ^ w.1.length : Nat) : Int), (b : Int), (l, seqV w, (upK w k ++ upB w k b).length, false), ()))) else .next u)
          (fun _ => .next (some (w, lensAll w), l, (k : Int), (b : Int), (w.1.length : Int) + 1, (k : Int), ((2 ^ w.1.length : Nat) : Int), (b : Int), (l, seqV w, (upK w k ++ upB w k b).length, false), ())) () ?_ ?_ ?_]
        · rw [foldS_anyN (q := fun (m : Nat) => decide (mendV w (bitsL w.1.length b) (m : Int) = 1)) _ _ (fun m => by simp)]
          have e : ((List.range w.2.1.length).all fun (m : Nat) => decide (mendV w (bitsL w.1.length b) (m : Int) = 1)) = okB w b := rfl
          rw [e]
          by_cases ho : okB w b = true
          · have hcb : (decide ((bitsL w.1.length b).length = k) && okB w b) = true := by simp [hc, ho]
            have hg := seq_get hk hb hcb
            have hg' : List.get?Internal (seqV w) (upK w k ++ upB w k b).length = some (b : Int) := hg
            simp only [ho, if_true, M.bind_pure, M.go_next, hg', true_and, M.req_True, M.ret_bind, add_defN]
            refine ⟨⟨true, trivial⟩, fun y _ => ?_⟩
            cases y with
            | false =>
              simp only [Bool.not_false, if_true, M.bind_pure, M.ret_pure, M.go_done]
              exact ⟨trivial, trivial, fun h => by cases h⟩
            | true =>
              simp only [Bool.not_true, Bool.false_eq_true, if_false, M.bind_pure, M.ret_pure, M.go_next, hwb]
              show _ = _
              rw [upB_succ, hcb]
              simp [Nat.add_assoc]
          · have hcb : (decide ((bitsL w.1.length b).length = k) && okB w b) = false := by simp [ho]
            simp only [ho, Bool.false_eq_true, if_false, M.bind_pure, M.go_next, M.go_done, M.ret_pure, hwb]
            show _ = _
            rw [upB_succ, hcb]
            simp
        · rfl
        · intro m hm u
          have hm : m < w.2.1.length := by simpa using hm
          have hwm := wrap64 (n := (m : Int) + 1) (by omega) (by omega)
          have hbl := bitsL_len w.1.length b
          have hp3 : mendedP (some (w, lensAll w), bitsL w.1.length b, (m : Int)) := ⟨w, ⟨rfl, hw⟩, by show (bitsL w.1.length b).length < 2 ^ 63; omega, fun i hi => isSpareV_iff.2 (bitsL_mem hi), isMakeV_nat hm⟩
          simp only [lt_len hm, if_true, List.getElem_range, FC.sh, M.bind_det, M.req_true hbo, hbe, M.req_true hp3, Option.getD_some, M.bind_pure, add_def, hwm]
          exact fin_step (mk := fun _ : Unit => (some (w, lensAll w), l, (k : Int), (b : Int), (w.1.length : Int) + 1, (k : Int), ((2 ^ w.1.length : Nat) : Int), (b : Int), ((w.2.1.length : Nat) : Int), (m : Int) + 1, (l, seqV w, (upK w k ++ upB w k b).length, false), ()))
        · intro u
          simp
      · have hne : decide (((bitsL w.1.length b).length : Int) ≠ (k : Int)) = true := by simp; omega
        have hcb : (decide ((bitsL w.1.length b).length = k) && okB w b) = false := by simp [hc]
        simp only [hne, if_true, M.bind_pure, M.go_next, M.ret_pure, add_def, hwb]
        show _ = _
        rw [upB_succ, hcb]
        simp
    · rintro s rfl
      simp only [Int.lt_irrefl, decide_false, Bool.false_eq_true, if_false, M.bind_pure, M.ret_pure, M.go_next, hwk]
      show _ = _
      rw [upK_succ]
      rfl
  · rintro s rfl
    have e : decide (((w.1.length + 1 : Nat) : Int) < (w.1.length : Int) + 1) = false := by simp
    simp only [e, Bool.false_eq_true, if_false, M.bind_pure, M.ret_pure]
    exact ⟨trivial, trivial, fun _ => rfl⟩
end Go.Fer
namespace Go.Fer
open M (Step)
set_option linter.unusedVariables false
set_option linter.unusedSimpArgs false
def onesI (x : Int) : Int := ((bitsL 10 x.toNat).length : Int)
def headT : List Int → List Int
  | [] => []
  | x :: l => x :: l.takeWhile fun y => decide (onesI y ≤ onesI x)
def fewL (w : Wsh) : List Int := headT (seqV w)
theorem seqV_mem {w : Wsh} {y : Int} (h : y ∈ seqV w) : ∃ k b : Nat, k ≤ w.1.length ∧ b < 2 ^ w.1.length ∧ y = (b : Int) ∧ (bitsL w.1.length b).length = k ∧ okB w b = true := by
  simp only [seqV, upK, upB, List.mem_flatMap, List.mem_range, List.mem_map, List.mem_filter, Bool.and_eq_true, decide_eq_true_eq] at h
  obtain ⟨k, hk, b, ⟨hb, hc, ho⟩, rfl⟩ := h
  exact ⟨k, b, by omega, hb, rfl, hc, ho⟩
theorem seqV_small {w : Wsh} (hw : goodW w) {y : Int} (h : y ∈ seqV w) : 0 ≤ y ∧ y < 1024 := by
  obtain ⟨k, b, _, hb, rfl, _⟩ := seqV_mem h
  have hhd := wV_head hw.2
  have hpw : 2 ^ w.1.length ≤ 2 ^ 10 := Nat.pow_le_pow_right (by omega) hhd.1
  have hpw : 2 ^ w.1.length ≤ 1024 := hpw
  generalize 2 ^ w.1.length = P at *
  omega
theorem headT_mem {l : List Int} {y : Int} (h : y ∈ headT l) : y ∈ l := by
  cases l with
  | nil => exact h
  | cons x l =>
    rcases List.mem_cons.1 h with rfl | h
    · simp
    · exact List.mem_cons_of_mem _ ((List.takeWhile_sublist _).mem h)
theorem headT_nil {l : List Int} : headT l = [] ↔ l = [] := by cases l <;> simp [headT]
theorem upK_len (w : Wsh) (k : Nat) : (upK w k).length ≤ k * 2 ^ w.1.length := by
  induction k with
  | zero => simp [upK]
  | succ k ih =>
    rw [upK_succ, List.length_append, Nat.succ_mul]
    have := upB_len w k (2 ^ w.1.length)
    omega
theorem seqV_len {w : Wsh} (hw : goodW w) : (seqV w).length ≤ 11264 := by
  have hhd := wV_head hw.2
  have hpw : 2 ^ w.1.length ≤ 2 ^ 10 := Nat.pow_le_pow_right (by omega) hhd.1
  have := upK_len w (w.1.length + 1)
  exact Nat.le_trans this (Nat.le_trans (Nat.mul_le_mul_left _ hpw) (Nat.mul_le_mul_right _ (show w.1.length + 1 ≤ 11 by omega)))
def fewV (w : Wsh) : List Int × Int := if knownV w true ≠ 0 then ([], knownV w true) else if fewL w = [] then ([], 3) else (fewL w, 0)
abbrev fcFewSets : FC := ⟨tW, .prod (.slice (.int .u64)) tI, smallW, fewV⟩
def listsPre (o : Option Shp) : Prop := ∃ w, isShop o w
def listsSeq (o : Option Shp) : List Int := seqV (o.getD (([], [], 0, []), [])).1
theorem rounds_few {body : List Int × Unit → Int → M (Ex × (List Int × Unit))} (l : List Int) (acc : List Int) (x : Int) (hx : acc.head? = some x)
    (h : ∀ acc : List Int, acc.head? = some x → acc.length ≤ 100000 → ∀ y ∈ l, body (acc, ()) y = if decide (onesI y > onesI x) = true then M.pure (Ex.exit 0, (acc, ())) else M.pure (Ex.normal, (acc ++ [y], ()))) (hl : acc.length + l.length ≤ 100000) :
    ∃ e, (e = .normal ∨ e = .exit 0) ∧ rounds body l (acc, ()) = M.pure (e, (acc ++ l.takeWhile (fun y => decide (onesI y ≤ onesI x)), ())) := by
  induction l generalizing acc with
  | nil => exact ⟨_, .inl rfl, by simp [rounds]⟩
  | cons y l ih =>
    simp only [List.length_cons] at hl
    unfold rounds
    rw [h acc hx (by omega) y (by simp)]
    by_cases hc : onesI y > onesI x
    · have h2 : decide (onesI y ≤ onesI x) = false := by simp; omega
      refine ⟨_, .inr rfl, ?_⟩
      simp only [hc, decide_true, if_true, M.bind_pure, List.takeWhile_cons, h2, Bool.false_eq_true, if_false, List.append_nil]
    · have h2 : decide (onesI y ≤ onesI x) = true := by simp; omega
      simp only [hc, decide_false, Bool.false_eq_true, if_false, M.bind_pure, List.takeWhile_cons, h2, if_true]
      obtain ⟨e, he, h3⟩ := ih (acc ++ [y]) (by rw [List.head?_append, hx]; rfl) (fun acc h1 h2 y hy => h acc h1 h2 y (List.mem_cons_of_mem _ hy)) (by simp; omega)
      exact ⟨e, he, by rw [h3]; simp⟩
theorem rounds_fewK {β γ : Type} {body : List Int × Unit → Int → M (Ex × (List Int × Unit))} {k : Ex × (List Int × Unit) → M β} {k2 : β → M γ} {v : M γ} (l : List Int) (acc : List Int) (x : Int) (hx : acc.head? = some x) (hl : acc.length + l.length ≤ 100000)
    (hk : ∀ e, (e = .normal ∨ e = .exit 0) → M.bind (k (e, (acc ++ l.takeWhile (fun y => decide (onesI y ≤ onesI x)), ()))) k2 = v)
    (h : ∀ acc : List Int, acc.head? = some x → acc.length ≤ 100000 → ∀ y ∈ l, body (acc, ()) y = if decide (onesI y > onesI x) = true then M.pure (Ex.exit 0, (acc, ())) else M.pure (Ex.normal, (acc ++ [y], ()))) :
    M.bind (M.bind (rounds body l (acc, ())) k) k2 = v := by
  obtain ⟨e, he, hr⟩ := rounds_few l acc x hx h hl
  rw [hr, M.bind_pure]
  exact hk e he
theorem eFewSets (w : Wsh) (h : smallW w) : S_parts_fewest fcOnes.sh fcOpen.sh listsPre listsSeq w = M.pure (fewV w) := by
  unfold S_parts_fewest
  have hp : smallW (w, true).1 := h
  simp only [FC.sh, M.bind_det, M.req_true hp]
  unfold fewV
  by_cases hk : knownV w true = 0
  · have hw := good_of_known h hk
    have hpre : listsPre (some (w, lensAll w)) := ⟨w, rfl, hw⟩
    have hsl := seqV_len hw
    have hseq : listsSeq (some (w, lensAll w)) = seqV w := rfl
    simp only [openV_0 hk, hk, ne_eq, not_true, decide_false, Bool.false_eq_true, if_false, M.req_true hpre, hseq]
    unfold fewL
    have hsm : ∀ y ∈ seqV w, 0 ≤ y ∧ y < 1024 := fun y hy => seqV_small hw hy
    revert hsm hsl
    generalize seqV w = l
    intro hsl hsm
    cases l with
    | nil =>
      simp only [rounds, headT, M.bind_pure, exC, M.go_next]
      rfl
    | cons x l =>
      have hx := hsm x (by simp)
      have hl1 : lenLe (([] : List Int).length + (0 + 1)) := by unfold lenLe; simp
      unfold rounds
      simp only [List.length_nil, ofNat_def, Int.natCast_zero, gt_iff_lt, Int.lt_irrefl, decide_false, Bool.false_eq_true, false_implies, M.req_True, true_and, and_true, Bool.false_and, if_false, add_defN, implies_true]
      rw [M.req_true (by exact hl1)]
      simp only [M.bind_pure, List.nil_append]
      refine rounds_fewK l [x] x rfl (by simp at hsl ⊢; omega) (fun e he => ?_) (fun acc hacc hal y hy => ?_)
      · rcases he with rfl | rfl
        · simp [exC, M.bind_pure, M.go_next, headT]
        · simp [exC, M.bind_pure, M.go_next, headT]
      · obtain ⟨a, rfl⟩ : ∃ a, acc = x :: a := by cases acc with | nil => cases hacc | cons z a => cases hacc; exact ⟨a, rfl⟩
        have hy := hsm y (List.mem_cons_of_mem _ hy)
        have hll : lenLe ((x :: a).length + (0 + 1)) := by unfold lenLe; omega
        have hpos : (0 : Int) < (((x :: a).length : Nat) : Int) := by simp
        have hg : List.getD (x :: a) (Int.toNat 0) 0 = x := rfl
        simp only [ofNat_def, hpos, gt_iff_lt, decide_true, true_implies, hg, FC.sh, M.safe_det, M.val_det, hx, hy, and_self, M.req_True, Int.le_refl, Bool.true_and, implies_true, add_defN, M.req_true hll]
        show M.bind (if decide (onesI x < onesI y) = true then _ else _) _ = _
        by_cases hc : onesI x < onesI y
        · simp [hc, M.bind_pure]
        · simp [hc, M.bind_pure]
  · simp [openV_1 hk, hk]
theorem sFewSets (x) : M.le (S_parts_fewest fcOnes.sh fcOpen.sh listsPre listsSeq x) (fcFewSets.sh x) := M.le_det fun h => eFewSets x h
end Go.Fer
namespace Go.Fer
open M (Step)
set_option linter.unusedVariables false
set_option linter.unusedSimpArgs false
theorem lists_inv (w : Wsh) : ∀ N, ((List.range N).foldl (stepL w) [] = [] ∧ ∀ b < N, okB w b = false) ∨
    ∃ k, upB w k N ≠ [] ∧ (List.range N).foldl (stepL w) [] = (upB w k N).map (fun y => bitsL w.1.length y.toNat) ∧ ∀ b < N, okB w b = true → k ≤ (bitsL w.1.length b).length := by
  intro N
  induction N with
  | zero => exact .inl ⟨rfl, fun b h => by omega⟩
  | succ N ih =>
    rw [List.range_succ, List.foldl_append]
    simp only [List.foldl_cons, List.foldl_nil]
    rcases ih with ⟨he, hn⟩ | ⟨k, hne, he, hmin⟩
    · rw [he]
      unfold stepL
      simp only [List.length_nil, Int.natCast_zero, gt_iff_lt, Int.lt_irrefl, decide_false, Bool.false_and, Bool.false_eq_true, if_false]
      cases ho : okB w N with
      | false =>
        have ho' : mendsAllV w (bitsL w.1.length N) = false := ho
        simp only [ho', Bool.false_eq_true, if_false]
        refine .inl ⟨trivial, fun b hb => ?_⟩
        by_cases e : b = N
        · rw [e]; exact ho
        · exact hn b (by omega)
      | true =>
        have ho' : mendsAllV w (bitsL w.1.length N) = true := ho
        simp only [ho', if_true, List.nil_append]
        have hu : upB w (bitsL w.1.length N).length N = [] := by
          unfold upB
          rw [List.map_eq_nil_iff, List.filter_eq_nil_iff]
          intro b hb
          rw [hn b (by simpa using hb)]
          simp
        refine .inr ⟨(bitsL w.1.length N).length, ?_, ?_, fun b hb hob => ?_⟩
        · rw [upB_succ, ho]; simp
        · rw [upB_succ, ho, hu]; simp
        · by_cases e : b = N
          · rw [e]; exact Nat.le_refl _
          · rw [hn b (by omega)] at hob; cases hob
    · rw [he]
      have hlen : 0 < (upB w k N).length := List.length_pos_iff.2 hne
      have hfl : firstLen ((upB w k N).map fun y => bitsL w.1.length y.toNat) = (k : Int) := by
        unfold firstLen
        cases hu : upB w k N with
        | nil => exact absurd hu hne
        | cons x l =>
          have hx : x ∈ upB w k N := by rw [hu]; simp
          simp only [upB, List.mem_map, List.mem_filter, Bool.and_eq_true, decide_eq_true_eq] at hx
          obtain ⟨b, ⟨_, hc, _⟩, rfl⟩ := hx
          simp [hc]
      unfold stepL
      rw [hfl]
      have hp : decide ((((upB w k N).map fun y => bitsL w.1.length y.toNat).length : Int) > 0) = true := by simp; omega
      simp only [hp, Bool.true_and]
      by_cases hgt : (k : Int) < ((bitsL w.1.length N).length : Int)
      · have hcf : (decide ((bitsL w.1.length N).length = k) && okB w N) = false := by
          have : (bitsL w.1.length N).length ≠ k := by omega
          simp [this]
        rw [if_pos (by simpa using hgt)]
        refine .inr ⟨k, ?_, ?_, fun b hb hob => ?_⟩
        · rw [upB_succ]; simp [hne]
        · rw [upB_succ, hcf]; simp
        · by_cases e : b = N
          · rw [e]; omega
          · exact hmin b (by omega) hob
      · rw [if_neg (by simpa using hgt)]
        cases ho : okB w N with
        | false =>
          have ho' : mendsAllV w (bitsL w.1.length N) = false := ho
          simp only [ho', Bool.false_eq_true, if_false]
          refine .inr ⟨k, ?_, ?_, fun b hb hob => ?_⟩
          · rw [upB_succ]; simp [hne]
          · rw [upB_succ, ho]; simp
          · by_cases e : b = N
            · rw [e, ho] at hob; cases hob
            · exact hmin b (by omega) hob
        | true =>
          have ho' : mendsAllV w (bitsL w.1.length N) = true := ho
          simp only [ho', if_true]
          by_cases hlt : ((bitsL w.1.length N).length : Int) < (k : Int)
          · rw [if_pos (by simpa using hlt)]
            have hu : upB w (bitsL w.1.length N).length N = [] := by
              unfold upB
              rw [List.map_eq_nil_iff, List.filter_eq_nil_iff]
              intro b hb
              have hb : b < N := by simpa using hb
              intro hcon
              simp only [Bool.and_eq_true, decide_eq_true_eq] at hcon
              have := hmin b hb hcon.2
              omega
            refine .inr ⟨(bitsL w.1.length N).length, ?_, ?_, fun b hb hob => ?_⟩
            · rw [upB_succ, ho]; simp
            · rw [upB_succ, ho, hu]; simp
            · by_cases e : b = N
              · rw [e]; exact Nat.le_refl _
              · have := hmin b (by omega) hob; omega
          · rw [if_neg (by simpa using hlt)]
            have hek : (bitsL w.1.length N).length = k := by omega
            refine .inr ⟨k, ?_, ?_, fun b hb hob => ?_⟩
            · rw [upB_succ]; simp [hne]
            · rw [upB_succ, hek, ho]; simp
            · by_cases e : b = N
              · rw [e]; omega
              · exact hmin b (by omega) hob
theorem upB_ones {w : Wsh} {k N : Nat} (hn : w.1.length ≤ 10) (hN : N ≤ 2 ^ w.1.length) : ∀ y ∈ upB w k N, onesI y = (k : Int) := by
  intro y hy
  simp only [upB, List.mem_map, List.mem_filter, List.mem_range, Bool.and_eq_true, decide_eq_true_eq] at hy
  obtain ⟨b, ⟨hb, hc, _⟩, rfl⟩ := hy
  unfold onesI
  rw [Int.toNat_natCast, bitsL_ext (Nat.lt_of_lt_of_le hb hN) hn, hc]
theorem few_spec {w : Wsh} (hw : goodW w) : (listsV w = [] ∧ fewL w = []) ∨ ∃ k, upB w k (2 ^ w.1.length) ≠ [] ∧ fewL w = upB w k (2 ^ w.1.length) ∧
    listsV w = (upB w k (2 ^ w.1.length)).map (fun y => bitsL w.1.length y.toNat) ∧ ∀ b < 2 ^ w.1.length, okB w b = true → k ≤ (bitsL w.1.length b).length := by
  have hhd := wV_head hw.2
  rcases lists_inv w (2 ^ w.1.length) with ⟨he, hn⟩ | ⟨k, hne, he, hmin⟩
  · refine .inl ⟨he, ?_⟩
    unfold fewL
    rw [headT_nil]
    apply List.eq_nil_iff_forall_not_mem.2
    intro y hy
    obtain ⟨k, b, _, hb, rfl, _, ho⟩ := seqV_mem hy
    rw [hn b hb] at ho
    cases ho
  · refine .inr ⟨k, hne, ?_, he, hmin⟩
    have hkn : k ≤ w.1.length := by
      obtain ⟨x, hx⟩ := List.exists_mem_of_ne_nil _ hne
      simp only [upB, List.mem_map, List.mem_filter, List.mem_range, Bool.and_eq_true, decide_eq_true_eq] at hx
      obtain ⟨b, ⟨_, hc, _⟩, _⟩ := hx
      rw [← hc]
      exact bitsL_len _ _
    have h0 : upK w k = [] := by
      unfold upK
      rw [List.flatMap_eq_nil_iff]
      intro j hj
      have hj : j < k := by simpa using hj
      unfold upB
      rw [List.map_eq_nil_iff, List.filter_eq_nil_iff]
      intro b hb
      have hb : b < 2 ^ w.1.length := by simpa using hb
      intro hcon
      simp only [Bool.and_eq_true, decide_eq_true_eq] at hcon
      have := hmin b hb hcon.2
      omega
    obtain ⟨d, hd⟩ := Nat.exists_eq_add_of_le (show k + 1 ≤ w.1.length + 1 by omega)
    have hseq : ∃ t, seqV w = upB w k (2 ^ w.1.length) ++ t ∧ ∀ y ∈ t, onesI y > (k : Int) := by
      refine ⟨(List.map (fun x => k + 1 + x) (List.range d)).flatMap fun k => upB w k (2 ^ w.1.length), ?_, fun y hy => ?_⟩
      · unfold seqV
        rw [hd]
        unfold upK
        rw [List.range_add, List.flatMap_append]
        show upK w (k + 1) ++ _ = _
        rw [upK_succ, h0, List.nil_append]
      · simp only [List.mem_flatMap, List.mem_map] at hy
        obtain ⟨j, ⟨i, _, rfl⟩, hy⟩ := hy
        rw [upB_ones hhd.1 (Nat.le_refl _) y hy]
        omega
    obtain ⟨t, ht, hgt⟩ := hseq
    unfold fewL
    rw [ht]
    have hon := upB_ones (w := w) (k := k) hhd.1 (Nat.le_refl _)
    revert hne hon
    generalize upB w k (2 ^ w.1.length) = u
    intro hne hon
    cases u with
    | nil => exact absurd rfl hne
    | cons x u =>
      have hx := hon x (by simp)
      show x :: (u ++ t).takeWhile _ = _
      rw [List.takeWhile_append_of_pos (fun y hy => by rw [hx, hon y (List.mem_cons_of_mem _ hy)]; simp)]
      cases t with
      | nil => simp
      | cons z t =>
        have hz := hgt z (by simp)
        have : decide (onesI z ≤ onesI x) = false := by simp; omega
        rw [List.takeWhile_cons, this]
        simp
theorem few_head {w : Wsh} (hw : goodW w) (h : fewL w ≠ []) : ∃ b : Nat, b < 2 ^ w.1.length ∧ (fewL w).getD 0 0 = (b : Int) ∧ (listsV w).getD 0 [] = bitsL w.1.length b ∧ okB w b = true ∧ (listsV w).length = (fewL w).length := by
  rcases few_spec hw with ⟨_, h2⟩ | ⟨k, hne, h1, h2, _⟩
  · exact absurd h2 h
  · rw [h1, h2]
    cases hu : upB w k (2 ^ w.1.length) with
    | nil => exact absurd hu hne
    | cons x l =>
      have hx : x ∈ upB w k (2 ^ w.1.length) := by rw [hu]; simp
      simp only [upB, List.mem_map, List.mem_filter, List.mem_range, Bool.and_eq_true, decide_eq_true_eq] at hx
      obtain ⟨b, ⟨hb, hc, ho⟩, rfl⟩ := hx
      exact ⟨b, hb, rfl, by simp, ho, by simp⟩
theorem fewestR_eq {w : Wsh} (h : smallW w) : fewestR w = (if (fewV w).2 ≠ 0 then (0, (fewV w).2) else (onesI ((fewV w).1.getD 0 0), 0)) := by
  unfold fewestR fewV
  by_cases hk : knownV w true = 0
  · have hw := good_of_known h hk
    have hhd := wV_head hw.2
    simp only [hk, ne_eq, not_true, if_false]
    by_cases hf : fewL w = []
    · have : listsV w = [] := by
        rcases few_spec hw with ⟨h1, _⟩ | ⟨k, hne, h1, _⟩
        · exact h1
        · exact absurd (h1 ▸ hf) hne
      simp [hf, this]
    · obtain ⟨b, hb, h1, h2, h3, h4⟩ := few_head hw hf
      have hl : 0 < (fewL w).length := List.length_pos_iff.2 hf
      have hn0 : ¬ (((listsV w).length : Int) = 0) := by omega
      simp only [hf, if_false, not_true, h1, firstLen, h2, hn0]
      unfold onesI
      rw [Int.toNat_natCast, bitsL_ext hb hhd.1]
  · simp [hk]
theorem few_small {w : Wsh} (hw : goodW w) {y : Int} (h : y ∈ fewL w) : 0 ≤ y ∧ y < 1024 := seqV_small hw (headT_mem h)
theorem fewV_1 {w : Wsh} (h : (fewV w).2 = 0) : knownV w true = 0 ∧ fewL w ≠ [] ∧ (fewV w).1 = fewL w := by
  unfold fewV at h ⊢
  split at h
  · rename_i hk; exact absurd h hk
  · split at h
    · cases h
    · rename_i hk hf
      have hk : knownV w true = 0 := Decidable.not_not.1 hk
      refine ⟨hk, hf, ?_⟩
      simp [hk, hf]
abbrev fcPFewest : FC := ⟨tW, .prod tI tI, smallW, fewestR⟩
theorem ePFewest (w : Wsh) (h : smallW w) : S_parts_Fewest fcFewSets.sh fcOnes.sh w = M.pure (fewestR w) := by
  unfold S_parts_Fewest
  simp only [FC.sh, M.bind_det, M.req_true h]
  rw [fewestR_eq h]
  by_cases hf : (fewV w).2 = 0
  · obtain ⟨hk, hne, h1⟩ := fewV_1 hf
    have hw := good_of_known h hk
    have hl : 0 < (fewL w).length := List.length_pos_iff.2 hne
    have hs := few_small hw (y := (fewL w).getD 0 0) (by cases hq : fewL w with | nil => exact absurd hq hne | cons x l => simp)
    have hr : (0 : Int) ≤ 0 ∧ 0 < Int.ofNat (fewL w).length := ⟨Int.le_refl _, by simp; omega⟩
    simp only [hf, ne_eq, not_true, decide_false, Bool.false_eq_true, if_false, h1, M.req_true hr]
    show M.req _ _ = _
    rw [M.req_true (by exact hs)]
    rfl
  · simp [hf]
theorem sPFewest (x) : M.le (S_parts_Fewest fcFewSets.sh fcOnes.sh x) (fcPFewest.sh x) := M.le_det fun h => ePFewest x h
theorem fewestR_2 {w : Wsh} (h : smallW w) : (fewestR w).2 = (fewV w).2 := by
  rw [fewestR_eq h]
  split
  · rfl
  · rename_i hn; exact (Decidable.not_not.1 hn).symm
end Go.Fer
namespace Go.Fer
open M (Step)
set_option linter.unusedVariables false
set_option linter.unusedSimpArgs false
theorem iand_nat {a b : Nat} (ha : a < 9223372036854775808) (hb : b < 9223372036854775808) : iand .u64 (a : Int) (b : Int) = ((a &&& b : Nat) : Int) := by
  show IntKind.u64.wrap ((BitVec.ofInt 64 (a : Int) &&& BitVec.ofInt 64 (b : Int)).toNat : Int) = _
  rw [BitVec.toNat_and, ofInt_small (by omega) (by omega), ofInt_small (by omega) (by omega)]
  simp only [Int.toNat_natCast]
  have : a &&& b ≤ a := Nat.and_le_left
  exact wrapU64 (by omega) (by omega)
theorem bit_iff {b i : Nat} : (b / 2 ^ i % 2 = 1) ↔ b.testBit i = true := by
  rw [Nat.testBit_eq_decide_div_mod_eq]
  simp
theorem mem_bitsL {n b : Nat} {i : Nat} : ((i : Int) ∈ bitsL n b) ↔ i < n ∧ b.testBit i = true := by
  simp only [bitsL, List.mem_map, List.mem_filter, List.mem_range, decide_eq_true_eq, bit_iff]
  constructor
  · rintro ⟨k, ⟨hk, hb⟩, e⟩
    have : k = i := by omega
    exact this ▸ ⟨hk, hb⟩
  · rintro ⟨h1, h2⟩
    exact ⟨i, ⟨h1, h2⟩, rfl⟩
theorem foldl_and : ∀ (l : List Nat) (a : Nat) (i : Nat), (l.foldl (fun x y => x &&& y) a).testBit i = (a.testBit i && l.all fun y => y.testBit i)
  | [], a, i => by simp
  | x :: l, a, i => by
    simp only [List.foldl_cons, List.all_cons]
    rw [foldl_and l, Nat.testBit_and, Bool.and_assoc]
theorem foldl_and_le : ∀ (l : List Nat) (a : Nat), l.foldl (fun x y => x &&& y) a ≤ a
  | [], a => Nat.le_refl _
  | x :: l, a => Nat.le_trans (foldl_and_le l _) Nat.and_le_left
theorem few_nat {w : Wsh} (hw : goodW w) : ∃ l : List Nat, fewL w = l.map (fun (b : Nat) => (b : Int)) ∧ listsV w = l.map (bitsL w.1.length) ∧ ∀ b ∈ l, b < 2 ^ w.1.length := by
  rcases few_spec hw with ⟨h1, h2⟩ | ⟨k, _, h1, h2, _⟩
  · exact ⟨[], by simp [h1, h2]⟩
  · refine ⟨_, h1, ?_, fun b hb => ?_⟩
    · rw [h2]
      unfold upB
      rw [List.map_map]
      rfl
    · simp only [List.mem_filter, List.mem_range] at hb
      exact hb.1
theorem needed_eq {w : Wsh} (hw : goodW w) {x : Nat} {l : List Nat} (hl : ∀ b ∈ x :: l, b < 2 ^ w.1.length) (h : listsV w = (x :: l).map (bitsL w.1.length)) :
    (((List.range w.1.length).filter fun (i : Nat) => decide ((((listsV w).countP fun l => l.contains (i : Int)) : Int) = ((listsV w).length : Int))).map fun (i : Nat) => (i : Int)) = bitsL 10 ((x :: l).foldl (fun x y => x &&& y) x) := by
  have hhd := wV_head hw.2
  have hlt : (x :: l).foldl (fun x y => x &&& y) x < 2 ^ w.1.length := Nat.lt_of_le_of_lt (foldl_and_le _ _) (hl x (by simp))
  rw [bitsL_ext hlt hhd.1]
  unfold bitsL
  congr 1
  apply List.filter_congr
  intro i hi
  have hi : i < w.1.length := by simpa using hi
  rw [decide_eq_decide, bit_iff, foldl_and, h]
  have e1 : ((((x :: l).map (bitsL w.1.length)).countP fun l => l.contains (i : Int) : Nat) : Int) = (((x :: l).map (bitsL w.1.length)).length : Int) ↔ (((x :: l).map (bitsL w.1.length)).countP fun l => l.contains (i : Int)) = ((x :: l).map (bitsL w.1.length)).length := by omega
  rw [e1, List.countP_eq_length]
  simp only [List.mem_map, List.contains_iff_mem, Bool.and_eq_true, List.all_eq_true]
  constructor
  · intro hh
    have hb : ∀ b ∈ x :: l, b.testBit i = true := fun b hb => (mem_bitsL.1 (hh _ ⟨b, hb, rfl⟩)).2
    exact ⟨hb x (by simp), hb⟩
  · rintro ⟨_, hh⟩ _ ⟨b, hb, rfl⟩
    exact mem_bitsL.2 ⟨hi, hh b hb⟩
abbrev fcPNeeded : FC := ⟨tW, .prod tInts tI, smallW, neededR⟩
theorem ePNeeded (w : Wsh) (h : smallW w) : S_parts_Needed fcFewSets.sh fcList.sh w = M.pure (neededR w) := by
  unfold S_parts_Needed neededR
  simp only [FC.sh, M.bind_det, M.req_true h]
  rw [fewestR_2 h]
  by_cases hf : (fewV w).2 = 0
  · obtain ⟨hk, hne, h1⟩ := fewV_1 hf
    have hw := good_of_known h hk
    have hhd := wV_head hw.2
    have hpw : 2 ^ w.1.length ≤ 2 ^ 10 := Nat.pow_le_pow_right (by omega) hhd.1
    have hpw : 2 ^ w.1.length ≤ 1024 := hpw
    have hln := seqV_len hw
    have hsub : (fewL w).length ≤ 11264 := by
      have : (fewL w).length ≤ (seqV w).length := by
        unfold fewL
        cases seqV w with
        | nil => simp [headT]
        | cons x l =>
          simp only [headT, List.length_cons]
          have := (List.takeWhile_sublist (p := fun y => decide (onesI y ≤ onesI x)) (l := l)).length_le
          omega
      omega
    obtain ⟨l, e1, e2, e3⟩ := few_nat hw
    cases l with
    | nil => exact absurd e1 hne
    | cons x l =>
      rw [needed_eq hw e3 e2]
      simp only [hf, ne_eq, not_true, decide_false, Bool.false_eq_true, if_false, h1]
      rw [e1] at hsub ⊢
      have hx := e3 x (by simp)
      have hlen : ((x :: l).map fun (b : Nat) => (b : Int)).length = (x :: l).length := by simp
      have hr : (0 : Int) ≤ 0 ∧ 0 < Int.ofNat ((x :: l).map fun (b : Nat) => (b : Int)).length := ⟨Int.le_refl _, by simp⟩
      have hg : List.getD ((x :: l).map fun (b : Nat) => (b : Int)) (Int.toNat 0) 0 = (x : Int) := rfl
      rw [M.req_true hr, hg]
      rw [M.loop_list (x :: l) (fun i (a : Nat) => ((a : Int), (x :: l).map (fun (b : Nat) => (b : Int)), Int.ofNat ((x :: l).map fun (b : Nat) => (b : Int)).length, (i : Int), ())) (fun y a => .next (a &&& y)) (fun (a : Nat) => .next ((a : Int), ())) (fun i a => a < 2 ^ w.1.length) x ?_ ?_ ?_ ?_]
      · rw [foldS_next]
        simp only [M.bind_pure, M.go_next]
        have hlt : (x :: l).foldl (fun x y => x &&& y) x < 2 ^ w.1.length := Nat.lt_of_le_of_lt (foldl_and_le _ _) (e3 x (by simp))
        generalize (x :: l).foldl (fun x y => x &&& y) x = a at hlt
        have ha2 : (0 : Int) ≤ (a : Int) ∧ (a : Int) < 1024 := by omega
        rw [M.req_true (by exact ha2)]
        simp
      · rfl
      · exact hx
      · intro i hi a ha
        have hi2 : i < ((x :: l).map fun (b : Nat) => (b : Int)).length := by rw [hlen]; exact hi
        have hwi := wrap64 (n := (i : Int) + 1) (by omega) (by omega)
        have hy := e3 (x :: l)[i] (List.getElem_mem hi)
        refine ⟨?_, fun b' hb' => ?_⟩
        · simp only [ofNat_def, lt_len hi2, if_true, in_len hi2, M.req_True, getD_nat hi2, List.getElem_map, iand_nat (a := a) (b := (x :: l)[i]) (by omega) (by omega), add_def, hwi]
          rfl
        · cases hb'
          exact Nat.lt_of_le_of_lt Nat.and_le_left ha
      · intro a ha
        simp
  · simp [hf]
theorem sPNeeded (x) : M.le (S_parts_Needed fcFewSets.sh fcList.sh x) (fcPNeeded.sh x) := M.le_det fun h => ePNeeded x h
end Go.Fer
namespace Go.Fer
open M (Step)
set_option linter.unusedVariables false
set_option linter.unusedSimpArgs false
def mulHi (x : Int × Int) : Int := IntKind.wrap .u64
  (Add.add (IntKind.wrap .u64 (Add.add (IntKind.wrap .u64 (ishr .u64 x.1 32 * ishr .u64 x.2 32)) (ishr .u64 (IntKind.wrap .u64 (Add.add (IntKind.wrap
  .u64 (ishr .u64 x.1 32 * iand .u64 x.2 4294967295)) (ishr .u64 (IntKind.wrap .u64 (iand .u64 x.1 4294967295 * iand .u64 x.2 4294967295)) 32))) 32)))
  (ishr .u64 (IntKind.wrap .u64 (Add.add (iand .u64 (IntKind.wrap .u64 (Add.add (IntKind.wrap .u64 (ishr .u64 x.1 32 * iand .u64 x.2 4294967295)) (ishr
  .u64 (IntKind.wrap .u64 (iand .u64 x.1 4294967295 * iand .u64 x.2 4294967295)) 32))) 4294967295) (IntKind.wrap .u64 (iand .u64 x.1 4294967295 * ishr
  .u64 x.2 32)))) 32))
def mulChk : Nat → Bool
  | 0 => true
  | n + 1 => decide (mulHi (1, (n : Int)) = 0) && mulChk n
theorem mulChk_ok : mulChk 11 = true := by decide +kernel
theorem mul_eq : ∀ (N n : Nat), mulChk N = true → n < N → mulHi (1, (n : Int)) = 0
  | 0, n, _, h => by omega
  | N + 1, n, hc, h => by
    simp only [mulChk, Bool.and_eq_true, decide_eq_true_eq] at hc
    by_cases e : n = N
    · rw [e]; exact hc.1
    · exact mul_eq N n hc.2 (by omega)
abbrev fcMul : FC := ⟨.prod (.int .u64) (.int .u64), .prod (.int .u64) (.int .u64), fun x => x.1 = 1 ∧ 0 ≤ x.2 ∧ x.2 ≤ 10, fun x => (0, x.2)⟩
theorem sMul64 (x) : M.le (S_math_bits_Mul64 x) (fcMul.sh x) := M.le_det fun h => by
  obtain ⟨a, b⟩ := x
  obtain ⟨h1, h2, h3⟩ := h
  change a = 1 at h1
  change 0 ≤ b at h2
  change b ≤ 10 at h3
  subst h1
  have h0 := mul_eq 11 b.toNat mulChk_ok (by omega)
  rw [Int.toNat_of_nonneg h2] at h0
  have hw := wrapU64 (n := 1 * b) (by omega) (by omega)
  have h32 : ((0 : Int) ≤ 32) = True := by simp
  unfold S_math_bits_Mul64
  simp only [h32, M.req_True]
  show M.pure (mulHi (1, b), IntKind.wrap .u64 (1 * b)) = _
  rw [h0, hw, Int.one_mul]
theorem sMul (c32) (x) : M.le (S_math_bits_Mul c32 fcMul.sh x) (fcMul.sh x) := M.le_det fun h => by
  unfold S_math_bits_Mul
  simp only [FC.sh, M.bind_det]
  rw [M.req_true (by exact h)]
noncomputable def shRepeat (x : List Int × Int × Unit) : M (List Int × Unit) := M.det (x.1 = [-1] ∧ 0 ≤ x.2.1 ∧ x.2.1 ≤ 10) (List.replicate x.2.1.toNat (-1), ())
theorem rep_step (m J : Nat) (h1 : 1 ≤ m) (h2 : m < J) :
    List.take m (List.replicate m (-1 : Int) ++ List.replicate (J - m) 0) ++ List.take (J - m) (List.take m (List.replicate m (-1 : Int) ++ List.replicate (J - m) 0)) ++
      List.drop (m + (List.take (J - m) (List.take m (List.replicate m (-1 : Int) ++ List.replicate (J - m) 0))).length) (List.replicate m (-1 : Int) ++ List.replicate (J - m) 0)
    = List.replicate (m + min (J - m) m) (-1) ++ List.replicate (J - (m + min (J - m) m)) 0 := by
  have e1 : List.take m (List.replicate m (-1 : Int) ++ List.replicate (J - m) 0) = List.replicate m (-1) := by
    rw [List.take_append_of_le_length (by simp)]; simp
  rw [e1, List.take_replicate, List.replicate_append_replicate, List.length_replicate, List.drop_append, List.length_replicate]
  have e2 : List.drop (m + min (J - m) m) (List.replicate m (-1 : Int)) = [] := by simp
  rw [e2, List.nil_append, List.drop_replicate]
  congr 2
  omega
theorem sRepeat (x) : M.le (S_slices_Repeat fcMul.sh x) (shRepeat x) := M.le_detR fun h => by
  obtain ⟨l, n, u⟩ := x
  obtain ⟨h1, h2, h3⟩ := h
  change l = [-1] at h1
  subst h1
  change 0 ≤ n at h2
  change n ≤ 10 at h3
  obtain ⟨J, rfl⟩ := Int.eq_ofNat_of_zero_le h2
  have hneg : decide ((J : Int) < 0) = false := by simp
  have hw1 : IntKind.u64.wrap (Int.ofNat ([-1] : List Int).length) = 1 := wrapU64 (by simp) (by simp)
  have hwJ := wrapU64 (n := (J : Int)) (by omega) (by omega)
  have hwi := wrap64 (n := (J : Int)) (by omega) (by omega)
  have hp : fcMul.pre (1, (J : Int)) := ⟨rfl, h2, h3⟩
  have hbig : decide ((J : Int) > 9223372036854775807) = false := by simp; omega
  have hll : lenLe J := by unfold lenLe; omega
  have hr : 0 ≤ (J : Int) ∧ True ∧ lenLe (Int.toNat (J : Int)) := ⟨h2, trivial, by rw [Int.toNat_natCast]; exact hll⟩
  unfold S_slices_Repeat
  simp only [hneg, Bool.false_eq_true, if_false, M.bind_pure, M.go_next, hw1, hwJ, FC.sh, M.bind_det]
  rw [M.req_true (by exact ⟨trivial, h2, h3⟩)]
  simp only [gt_iff_lt, Int.lt_irrefl, decide_false, Bool.false_or, Bool.false_eq_true, if_false, M.bind_pure, M.go_next, hwi]
  have hbig' : decide ((9223372036854775807 : Int) < (J : Int)) = false := hbig
  simp only [hbig', Bool.false_eq_true, if_false, M.bind_pure, M.go_next, hwi]
  rw [M.req_true hr]
  simp only [M.req_True, M.ret_bind, Int.toNat_natCast, List.length_replicate, Nat.sub_zero, List.nil_append, List.length_singleton, ofNat_def, add_defN, Nat.zero_add]
  refine M.ret_loop (fun s => ∃ m : Nat, (1 ≤ m ∨ J = 0) ∧ m ≤ J ∧ s = ((m : Int), List.replicate m (-1) ++ List.replicate (J - m) 0, ())) (fun s => J - s.1.toNat) ?_ _ ?_
  · rintro s ⟨m, hm, hmJ, rfl⟩
    have hlen : (List.replicate m (-1 : Int) ++ List.replicate (J - m) 0).length = J := by simp; omega
    simp only [hlen]
    by_cases hlt : m < J
    · have hr1 : 0 ≤ (m : Int) ∧ (m : Int) ≤ (J : Int) ∧ (J : Int) ≤ (J : Int) := by omega
      have hr2 : (0 : Int) ≤ 0 ∧ 0 ≤ (m : Int) ∧ (m : Int) ≤ (J : Int) := by omega
      have hm1 : 1 ≤ m := by omega
      have htl : (List.take m (List.replicate m (-1 : Int) ++ List.replicate (J - m) 0)).length = m := by simp
      simp only [lt_len hlt, if_true, M.req_true hr1, M.req_true hr2, M.req_True, Int.toNat_natCast, htl, add_def]
      rw [M.ret_pure, rep_step m J hm1 hlt]
      have hif : (if J - m ≤ m then J - m else m) = min (J - m) m := by split <;> omega
      rw [hif]
      have hw2 := wrap64 (n := (m : Int) + ((min (J - m) m : Nat) : Int)) (by omega) (by omega)
      refine ⟨⟨m + min (J - m) m, .inl (by omega), by omega, ?_⟩, ?_⟩
      · rw [hw2]; simp
      · simp only [hw2]; omega
    · have : m = J := by omega
      subst this
      simp only [Int.lt_irrefl, decide_false, Bool.false_eq_true, if_false, M.bind_pure, M.ret_pure, M.go_next, Nat.sub_self, List.replicate_zero, List.append_nil]
  · by_cases hJ : J = 0
    · subst hJ
      exact ⟨0, .inr rfl, Nat.le_refl _, by simp⟩
    · refine ⟨1, .inl (Nat.le_refl _), by omega, ?_⟩
      have e1 : (if J ≤ 1 then J else 1) = 1 := by split <;> omega
      have e2 : List.take J ([-1] : List Int) = [-1] := List.take_of_length_le (by simp; omega)
      rw [e1, e2]
      simp [List.drop_replicate]
def holdV (work : List Int) (s : Int) : List Int := ((List.range work.length).filter fun j => decide (work.getD j 0 = s)).map fun (j : Nat) => (j : Int)
theorem holdV_len (work : List Int) (s : Int) : (holdV work s).length ≤ work.length := by
  unfold holdV
  rw [List.length_map]
  exact Nat.le_trans (List.length_filter_le _ _) (by simp)
theorem mem_holdV {work : List Int} {s j : Int} : j ∈ holdV work s ↔ 0 ≤ j ∧ j < (work.length : Int) ∧ work.getD j.toNat 0 = s := by
  simp only [holdV, List.mem_map, List.mem_filter, List.mem_range, decide_eq_true_eq]
  constructor
  · rintro ⟨i, ⟨h1, h2⟩, rfl⟩; exact ⟨by omega, by omega, by simpa using h2⟩
  · rintro ⟨h1, h2, h3⟩; exact ⟨j.toNat, ⟨by omega, h3⟩, by omega⟩
abbrev tTask : Ty := .prod (.slice tInts) (.prod tInts tInts)
abbrev tTaskP : Ty := .ptr (.st tTask)
abbrev fcHolders : FC := ⟨.prod tTaskP tI, tInts, fun x => ∃ t, x.1 = some t ∧ t.2.2.length ≤ 10, fun x => holdV ((x.1.getD ([], [], [])).2.2) x.2⟩
theorem sHolders (x) : M.le (S_parts_task_holders x) (fcHolders.sh x) := M.le_det fun h => by
  obtain ⟨o, s⟩ := x
  obtain ⟨t, hf, hl⟩ := h
  change o = some t at hf
  subst hf
  unfold S_parts_task_holders
  simp only [Option.isSome_some, Option.getD_some, M.req_True]
  rw [M.loop_list (List.range t.2.2.length) (fun i (l : List Int) => (s, t.2.2, Int.ofNat t.2.2.length, (i : Int), l, ())) (fun (i : Nat) l => .next (if decide (t.2.2.getD i 0 = s) = true then l ++ [(i : Int)] else l)) (fun l => .next (l, ())) (fun i l => l.length ≤ i) [] ?_ ?_ ?_ ?_]
  · rw [foldS_next, foldl_filter_map]
    simp only [M.bind_pure, M.go_next, List.nil_append]
    rfl
  · rfl
  · simp
  · intro i hi l hll
    have hi : i < t.2.2.length := by simpa using hi
    have hwi := wrap64 (n := (i : Int) + 1) (by omega) (by omega)
    have hl2 : lenLe (l.length + (0 + 1)) := by unfold lenLe; omega
    refine ⟨?_, fun b' hb' => ?_⟩
    · simp only [ofNat_def, lt_len hi, if_true, in_len hi, M.req_True, List.getElem_range, Int.toNat_natCast]
      by_cases hc : decide (t.2.2.getD i 0 = s) = true
      · simp only [hc, if_true, add_defN, M.req_true hl2, M.bind_pure, M.go_next, add_def, hwi]; rfl
      · simp only [hc, Bool.false_eq_true, if_false, M.bind_pure, M.go_next, add_def, hwi]; rfl
    · cases hb'
      split <;> (try simp only [List.length_append, List.length_singleton]) <;> omega
  · intro l hll
    simp
noncomputable def shHoldersIO (x : Int × List (List Int) × List Int × List Int × Unit) : M (List Int × List (List Int) × List Int × List Int × Unit) := M.det (x.2.2.2.1.length ≤ 10) (holdV x.2.2.2.1 x.1, x.2)
theorem sHoldersIO (x) : M.le (S_parts_task_holdersIO x) (shHoldersIO x) := M.le_det fun h => by
  obtain ⟨s, fit, stock, work, u⟩ := x
  change work.length ≤ 10 at h
  unfold S_parts_task_holdersIO
  simp only [M.req_True]
  rw [M.loop_list (List.range work.length) (fun i (l : List Int) => (s, Int.ofNat work.length, (i : Int), l, fit, stock, work, ())) (fun (i : Nat) l => .next (if decide (work.getD i 0 = s) = true then l ++ [(i : Int)] else l)) (fun l => .next (l, fit, stock, work, ())) (fun i l => l.length ≤ i) [] ?_ ?_ ?_ ?_]
  · rw [foldS_next, foldl_filter_map]
    simp only [M.bind_pure, M.go_next, List.nil_append]
    rfl
  · rfl
  · simp
  · intro i hi l hll
    have hi : i < work.length := by simpa using hi
    have hwi := wrap64 (n := (i : Int) + 1) (by omega) (by omega)
    have hl2 : lenLe (l.length + (0 + 1)) := by unfold lenLe; omega
    refine ⟨?_, fun b' hb' => ?_⟩
    · simp only [ofNat_def, lt_len hi, if_true, in_len hi, M.req_True, List.getElem_range, Int.toNat_natCast]
      by_cases hc : decide (work.getD i 0 = s) = true
      · simp only [hc, if_true, add_defN, M.req_true hl2, M.bind_pure, M.go_next, add_def, hwi]; rfl
      · simp only [hc, Bool.false_eq_true, if_false, M.bind_pure, M.go_next, add_def, hwi]; rfl
    · cases hb'
      split <;> (try simp only [List.length_append, List.length_singleton]) <;> omega
  · intro l hll
    simp
end Go.Fer
namespace Go.Fer
open M (Step)
set_option linter.unusedVariables false
set_option linter.unusedSimpArgs false
theorem foldS_inv {α β ρ : Type} {f : α → β → Step β ρ} {fin : β → ρ} (I : Nat → β → Prop) (Q : ρ → Prop) (l : List α) (b : β) (h0 : I 0 b)
    (hs : ∀ i (h : i < l.length) b, I i b → match f l[i] b with | .next b' => I (i + 1) b' | .done r => Q r) (hf : ∀ b, I l.length b → Q (fin b)) : Q (foldS f fin l b) := by
  have key : ∀ (k : Nat) (r : List α) (b : β), k ≤ l.length → r = l.drop k → I k b → Q (foldS f fin r b) := by
    intro k r
    induction r generalizing k with
    | nil =>
      intro b hk hr hI
      have : k = l.length := by have := congrArg List.length hr; simp at this; omega
      subst this
      exact hf b hI
    | cons x r ih =>
      intro b hk hr hI
      have hlt : k < l.length := by
        rcases Nat.lt_or_ge k l.length with h | h
        · exact h
        · rw [List.drop_eq_nil_of_le h] at hr; cases hr
      rw [List.drop_eq_getElem_cons hlt] at hr
      injection hr with hx hr
      have h1 := hs k hlt b hI
      rw [← hx] at h1
      simp only [foldS]
      cases hf' : f x b with
      | next b' => rw [hf'] at h1; exact ih (k + 1) b' hlt hr h1
      | done r' => rw [hf'] at h1; exact h1
  exact key 0 l b (Nat.zero_le _) rfl h0
def mval (m : List (Int × Int)) (k : Int) : Int := (mlkI m k).getD 0
theorem mval_def (m : List (Int × Int)) (k : Int) : Option.getD (Option.map (fun x => x.2) (List.find? (fun p => decide (k = p.1)) m)) 0 = mval m k := rfl
theorem mval_mset (k v k' : Int) (m : List (Int × Int)) : mval (msetI m k v) k' = if k' = k then v else mval m k' := by
  unfold mval
  rw [mlkI_mset]
  split <;> rfl
def unas (n : Nat) (m : List (Int × Int)) : Nat := (List.range n).countP fun (s : Nat) => decide (mval m (s : Int) = 0)
theorem countP_one {p q : Nat → Bool} {s : Nat} (h : ∀ x, x ≠ s → p x = q x) (hp : p s = true) (hq : q s = false) : ∀ (l : List Nat), l.Nodup → s ∈ l → l.countP p = l.countP q + 1
  | [], _, hs => by cases hs
  | x :: l, hn, hs => by
    rw [List.nodup_cons] at hn
    rw [List.countP_cons, List.countP_cons]
    by_cases e : x = s
    · subst e
      have : l.countP p = l.countP q := List.countP_congr fun y hy => by
        have : y ≠ x := fun e => hn.1 (e ▸ hy)
        rw [h y this]
      rw [this, hp, hq]; simp
    · have := countP_one h hp hq l hn.2 (by rcases List.mem_cons.1 hs with h | h; exact absurd h.symm e; exact h)
      rw [this, h x e]
      omega
theorem unas_mark {n : Nat} {m : List (Int × Int)} {s v : Int} (h0 : 0 ≤ s) (hn : s < (n : Int)) (hm : mval m s = 0) (hv : v ≠ 0) : unas n m = unas n (msetI m s v) + 1 := by
  unfold unas
  refine countP_one (s := s.toNat) (fun x hx => ?_) ?_ ?_ _ List.nodup_range (by simp; omega)
  · rw [mval_mset, if_neg (by omega)]
  · rw [Int.toNat_of_nonneg h0]; simp [hm]
  · rw [mval_mset, if_pos (by omega)]; simp [hv]
theorem unas_mono {n : Nat} {a b : List (Int × Int)} (h : ∀ k, 0 ≤ mval a k ∧ mval a k ≤ mval b k) : unas n b ≤ unas n a := by
  unfold unas
  refine List.countP_mono_left fun x _ hx => ?_
  have := h (x : Int)
  simp only [decide_eq_true_eq] at hx ⊢
  omega
abbrev GSt := List Int × List (Int × Int)
def oStep (rec : Int → GSt → Bool × GSt) (j : Int) (st : GSt) : Step GSt (Bool × GSt) := if (rec j st).1 = true then .done (true, (rec j st).2) else .next (rec j st).2
def giveO (rec : Int → GSt → Bool × GSt) (h : List Int) (st : GSt) : Bool × GSt := foldS (oStep rec) (fun st => (false, st)) h st
def gStep (stock : List Int) (rec : Int → GSt → Bool × GSt) (job : Int) (s : Int) (st : GSt) : Step GSt (Bool × GSt) :=
  if decide (mval st.2 s + 1 > 1) = true then .next (st.1, msetI st.2 s (mval st.2 s + 1))
  else if decide (((holdV st.1 s).length : Int) < stock.getD s.toNat 0) = true then .done (true, (st.1.set job.toNat s, msetI st.2 s (mval st.2 s + 1)))
  else if (giveO rec (holdV st.1 s) (st.1, msetI st.2 s (mval st.2 s + 1))).1 = true then .done (true, ((giveO rec (holdV st.1 s) (st.1, msetI st.2 s (mval st.2 s + 1))).2.1.set job.toNat s, (giveO rec (holdV st.1 s) (st.1, msetI st.2 s (mval st.2 s + 1))).2.2))
  else .next (giveO rec (holdV st.1 s) (st.1, msetI st.2 s (mval st.2 s + 1))).2
def giveL (stock : List Int) (rec : Int → GSt → Bool × GSt) (job : Int) (l : List Int) (st : GSt) : Bool × GSt := foldS (gStep stock rec job) (fun st => (false, st)) l st
def giveV (fit : List (List Int)) (stock : List Int) : Nat → Int → GSt → Bool × GSt
  | 0 => fun _ st => (false, st)
  | f + 1 => fun job st => giveL stock (giveV fit stock f) job (fit.getD job.toNat []) st
structure GC (n : Nat) (fit : List (List Int)) (stock : List Int) : Prop where
  nl : n ≤ 10
  fl : fit.length ≤ 10
  sl : stock.length = n
  fits : ∀ l ∈ fit, l.Nodup ∧ ∀ s ∈ l, 0 ≤ s ∧ s < (n : Int)
def GD (n J f : Nat) (st : GSt) : Prop := st.1.length = J ∧ (∀ k, 0 ≤ mval st.2 k ∧ mval st.2 k + 10 * (unas n st.2 : Int) + (f : Int) ≤ 1000) ∧ unas n st.2 < f
def GPost (n J : Nat) (st r : GSt) : Prop := r.1.length = J ∧ ∀ k, mval st.2 k ≤ mval r.2 k ∧ mval r.2 k + 10 * (unas n r.2 : Int) ≤ mval st.2 k + 10 * (unas n st.2 : Int) + 1
def OD (n J f : Nat) (st : GSt) : Prop := st.1.length = J ∧ (∀ k, 0 ≤ mval st.2 k ∧ mval st.2 k + 10 * (unas n st.2 : Int) + (f : Int) + 10 ≤ 1000) ∧ unas n st.2 < f
def OI (n J : Nat) (st1 : GSt) (i : Nat) (st : GSt) : Prop := st.1.length = J ∧ ∀ k, mval st1.2 k ≤ mval st.2 k ∧ mval st.2 k + 10 * (unas n st.2 : Int) ≤ mval st1.2 k + 10 * (unas n st1.2 : Int) + (i : Int)
theorem OI_zero {n J : Nat} {st : GSt} (h : st.1.length = J) : OI n J st 0 st := ⟨h, fun k => ⟨Int.le_refl _, by omega⟩⟩
theorem OI_GD {n J f i : Nat} {st1 st : GSt} (h1 : OD n J f st1) (h : OI n J st1 i st) (hi : i ≤ 10) : GD n J f st := by
  have hu := unas_mono (n := n) (a := st1.2) (b := st.2) fun k => ⟨(h1.2.1 k).1, (h.2 k).1⟩
  refine ⟨h.1, fun k => ?_, by have := h1.2.2; omega⟩
  have a := h1.2.1 k
  have b := h.2 k
  omega
theorem OI_le {n J i k : Nat} {st1 st : GSt} (h : OI n J st1 i st) (hik : i ≤ k) : OI n J st1 k st := ⟨h.1, fun q => ⟨(h.2 q).1, by have := (h.2 q).2; omega⟩⟩
theorem OI_succ {n J i : Nat} {st1 st r : GSt} (h : OI n J st1 i st) (hr : GPost n J st r) : OI n J st1 (i + 1) r := by
  refine ⟨hr.1, fun k => ?_⟩
  have a := h.2 k
  have b := hr.2 k
  omega
def RecOk (n J f : Nat) (rec : Int → GSt → Bool × GSt) : Prop := ∀ j st, 0 ≤ j → j < (J : Int) → GD n J f st → GPost n J st (rec j st).2
theorem giveO_post {n J f : Nat} {rec : Int → GSt → Bool × GSt} (hrec : RecOk n J f rec) {st : GSt} (h1 : OD n J f st) (h : List Int) (hl : h.length ≤ 10) (hj : ∀ j ∈ h, 0 ≤ j ∧ j < (J : Int)) : OI n J st 10 (giveO rec h st).2 := by
  unfold giveO
  refine foldS_inv (fun i st' => OI n J st i st') (fun r : Bool × GSt => OI n J st 10 r.2) h st (OI_zero h1.1) (fun i hi b hb => ?_) fun b hb => ?_
  · have hm := hj h[i] (List.getElem_mem hi)
    have hp := hrec h[i] b hm.1 hm.2 (OI_GD h1 hb (by omega))
    have := OI_succ hb hp
    unfold oStep
    split
    · rename_i heq
      split at heq
      · cases heq
      · cases heq; exact this
    · rename_i heq
      split at heq
      · cases heq
        exact OI_le this (by omega)
      · cases heq
  · exact OI_le hb (by omega)
def LI (n J : Nat) (st0 : GSt) (l : List Int) (i : Nat) (st : GSt) : Prop := st.1.length = J ∧ ∀ k, mval st0.2 k ≤ mval st.2 k ∧ mval st.2 k + 10 * (unas n st.2 : Int) ≤ mval st0.2 k + 10 * (unas n st0.2 : Int) + (if k ∈ l.take i then 1 else 0)
theorem take_notin {l : List Int} (hn : l.Nodup) {i : Nat} (hi : i < l.length) : l[i] ∉ l.take i := by
  intro h
  obtain ⟨k, hk, e⟩ := List.mem_take_iff_getElem.1 h
  have := (List.getElem_inj hn).1 e
  omega
theorem take_memS {l : List Int} {i : Nat} (hi : i < l.length) {k : Int} : k ∈ l.take (i + 1) ↔ k ∈ l.take i ∨ k = l[i] := by
  rw [List.take_add_one, List.getElem?_eq_getElem hi, List.mem_append]
  simp only [Option.toList, List.mem_singleton]
theorem LI_small {n J f : Nat} {st0 st : GSt} {l : List Int} {i : Nat} (h0 : GD n J (f + 1) st0) (h : LI n J st0 l i st) (k : Int) : 0 ≤ mval st.2 k ∧ mval st.2 k + 10 * (unas n st.2 : Int) + (f : Int) ≤ 1000 := by
  have a := h0.2.1 k
  have b := h.2 k
  split at b <;> omega
theorem LI_skip {n J f : Nat} {st0 st : GSt} {l : List Int} {i : Nat} (hn : l.Nodup) (hi : i < l.length) (h0 : GD n J (f + 1) st0) (h : LI n J st0 l i st) (hp : mval st.2 l[i] + 1 > 1) : LI n J st0 l (i + 1) (st.1, msetI st.2 l[i] (mval st.2 l[i] + 1)) := by
  refine ⟨h.1, fun k => ?_⟩
  have hu : unas n (msetI st.2 l[i] (mval st.2 l[i] + 1)) = unas n st.2 := by
    unfold unas
    refine List.countP_congr fun x hx => ?_
    rw [mval_mset]
    split
    · rename_i e; rw [e]; simp only [decide_eq_true_eq]; omega
    · exact Iff.rfl
  have a := h.2 k
  have hnt := take_notin hn hi
  simp only [mval_mset, hu, take_memS hi]
  by_cases e : k = l[i]
  · subst e
    simp only [hnt, if_false] at a
    simp only [if_true, or_true]
    omega
  · simp only [e, if_false, or_false]
    exact a
theorem LI_mark {n J f : Nat} {st0 st : GSt} {l : List Int} {i : Nat} (hn : l.Nodup) (hi : i < l.length) (hr : 0 ≤ l[i] ∧ l[i] < (n : Int)) (h0 : GD n J (f + 1) st0) (h : LI n J st0 l i st) (hp : ¬ mval st.2 l[i] + 1 > 1) :
    OD n J f (st.1, msetI st.2 l[i] (mval st.2 l[i] + 1)) ∧ ∀ r, OI n J (st.1, msetI st.2 l[i] (mval st.2 l[i] + 1)) 10 r → LI n J st0 l (i + 1) r := by
  have hs0 := (LI_small h0 h l[i]).1
  have hz : mval st.2 l[i] = 0 := by omega
  have hu := unas_mark (n := n) (m := st.2) (v := mval st.2 l[i] + 1) hr.1 hr.2 hz (by omega)
  have hum := unas_mono (n := n) (a := st0.2) (b := st.2) fun k => ⟨(h0.2.1 k).1, (h.2 k).1⟩
  have hnt := take_notin hn hi
  refine ⟨⟨h.1, fun k => ?_, ?_⟩, fun r hr => ⟨hr.1, fun k => ?_⟩⟩
  · have a := LI_small h0 h k
    have b := h0.2.1 k
    have c := h.2 k
    simp only [mval_mset]
    by_cases e : k = l[i]
    · subst e
      simp only [hnt, if_false] at c
      simp only [if_true]
      omega
    · simp only [e, if_false]
      split at c <;> omega
  · have := h0.2.2
    show unas n (msetI st.2 l[i] (mval st.2 l[i] + 1)) < f
    omega
  · have c := h.2 k
    have d := hr.2 k
    simp only [mval_mset] at d
    simp only [take_memS hi]
    by_cases e : k = l[i]
    · subst e
      simp only [hnt, if_false] at c
      simp only [if_true] at d
      simp only [or_true, if_true]
      omega
    · simp only [e, if_false] at d
      simp only [e, or_false]
      omega
theorem giveL_post {n J f : Nat} {stock : List Int} {rec : Int → GSt → Bool × GSt} (hrec : RecOk n J f rec) (hJ : J ≤ 10) {job : Int} {l : List Int} (hl : l.Nodup ∧ ∀ s ∈ l, 0 ≤ s ∧ s < (n : Int)) {st : GSt} (h0 : GD n J (f + 1) st) : GPost n J st (giveL stock rec job l st).2 := by
  unfold giveL
  have fin : ∀ i st', LI n J st l i st' → GPost n J st st' := fun i st' h => ⟨h.1, fun k => by have := h.2 k; split at this <;> omega⟩
  refine foldS_inv (fun i st' => LI n J st l i st') (fun r : Bool × GSt => GPost n J st r.2) l st ⟨h0.1, fun k => ⟨Int.le_refl _, by simp⟩⟩ (fun i hi b hb => ?_) fun b hb => fin _ _ hb
  unfold gStep
  by_cases h1 : mval b.2 l[i] + 1 > 1
  · simp only [h1, decide_true, if_true]
    exact LI_skip hl.1 hi h0 hb h1
  · obtain ⟨hod, hoi⟩ := LI_mark hl.1 hi (hl.2 _ (List.getElem_mem hi)) h0 hb h1
    simp only [h1, decide_false, Bool.false_eq_true, if_false]
    by_cases h2 : decide (((holdV b.1 l[i]).length : Int) < stock.getD l[i].toNat 0) = true
    · simp only [h2, if_true]
      have h3 := hoi _ ⟨hod.1, fun k => ⟨Int.le_refl _, by omega⟩⟩
      have h4 := fin _ _ h3
      exact ⟨by simpa using h4.1, h4.2⟩
    · simp only [h2, Bool.false_eq_true, if_false]
      have hp := giveO_post hrec hod (holdV b.1 l[i]) (by have := holdV_len b.1 l[i]; have := hb.1; omega) (fun j hj => by have := mem_holdV.1 hj; have := hb.1; omega)
      have h3 := hoi _ hp
      by_cases h5 : (giveO rec (holdV b.1 l[i]) (b.1, msetI b.2 l[i] (mval b.2 l[i] + 1))).1 = true
      · simp only [h5, if_true]
        have h4 := fin _ _ h3
        exact ⟨by simpa using h4.1, h4.2⟩
      · simp only [h5, Bool.false_eq_true, if_false]
        exact h3
theorem fit_get {n : Nat} {fit : List (List Int)} {stock : List Int} (hc : GC n fit stock) (j : Int) : (fit.getD j.toNat []).Nodup ∧ ∀ s ∈ fit.getD j.toNat [], 0 ≤ s ∧ s < (n : Int) := by
  by_cases h : j.toNat < fit.length
  · have : fit.getD j.toNat [] ∈ fit := by rw [List.getD_eq_getElem?_getD, List.getElem?_eq_getElem h]; exact List.getElem_mem h
    exact hc.fits _ this
  · rw [List.getD_eq_getElem?_getD, List.getElem?_eq_none (by omega)]
    simp
theorem giveV_post {n : Nat} {fit : List (List Int)} {stock : List Int} (hc : GC n fit stock) : ∀ f, RecOk n fit.length f (giveV fit stock f)
  | 0 => fun j st _ _ h => absurd h.2.2 (by omega)
  | f + 1 => fun j st _ _ h => giveL_post (giveV_post hc f) hc.fl (fit_get hc j) h
end Go.Fer
namespace Go.Fer
open M (Step)
set_option linter.unusedVariables false
set_option linter.unusedSimpArgs false
def Step.mapD {β ρ ρ' : Type} (g : ρ → ρ') : Step β ρ → Step β ρ'
  | .next b => .next b
  | .done r => .done (g r)
def foldP {α β ρ : Type} (f : α → β → Step β ρ) : List α → β → Step β ρ
  | [], b => .next b
  | x :: l, b => match f x b with
    | .next b' => foldP f l b'
    | .done r => .done r
def Step.fin {β ρ : Type} (n : β → ρ) : Step β ρ → ρ
  | .next b => n b
  | .done r => r
theorem foldS_P {α β ρ : Type} {f : α → β → Step β ρ} {n : β → ρ} : ∀ (l : List α) (b : β), foldS f n l b = Step.fin n (foldP f l b)
  | [], b => rfl
  | x :: l, b => by
    simp only [foldS, foldP]
    cases f x b with
    | next b' => exact foldS_P l b'
    | done r => rfl
theorem foldP_mapD {α β ρ ρ' : Type} {f : α → β → Step β ρ} {g : ρ → ρ'} : ∀ (l : List α) (b : β), foldP (fun x b => Step.mapD g (f x b)) l b = Step.mapD g (foldP f l b)
  | [], b => rfl
  | x :: l, b => by
    simp only [foldP]
    cases f x b with
    | next b' => exact foldP_mapD l b'
    | done r => rfl
theorem oStep_true {rec : Int → GSt → Bool × GSt} : ∀ (l : List Int) (st : GSt) r, foldP (oStep rec) l st = .done r → r.1 = true
  | [], st, r, h => by cases h
  | j :: l, st, r, h => by
    simp only [foldP] at h
    cases ho : oStep rec j st with
    | next b' => rw [ho] at h; exact oStep_true l b' r h
    | done r' =>
      rw [ho] at h
      cases h
      unfold oStep at ho
      split at ho
      · cases ho; rfl
      · cases ho
abbrev GIn := Int × List (List Int) × List Int × List Int × List (Int × Int) × Unit
abbrev GOut := Bool × List (List Int) × List Int × List Int × List (Int × Int) × Unit
def giveOut (fit : List (List Int)) (stock : List Int) (r : Bool × GSt) : GOut := (r.1, fit, stock, r.2.1, r.2.2, ())
def GPre (f : Nat) (x : GIn) : Prop := ∃ n, GC n x.2.1 x.2.2.1 ∧ 0 ≤ x.1 ∧ x.1 < (x.2.1.length : Int) ∧ GD n x.2.1.length f (x.2.2.2.1, x.2.2.2.2.1)
noncomputable def shGive (f : Nat) (x : GIn) : M GOut := M.det (GPre f x) (giveOut x.2.1 x.2.2.1 (giveV x.2.1 x.2.2.1 f x.1 (x.2.2.2.1, x.2.2.2.2.1)))
theorem eGive {n f : Nat} {fit : List (List Int)} {stock : List Int} (hc : GC n fit stock) {job : Int} (hj : 0 ≤ job ∧ job < (fit.length : Int)) {st : GSt} (h0 : GD n fit.length (f + 1) st) :
    S_parts_task_give shHoldersIO (shGive f) (job, fit, stock, st.1, st.2, ()) = M.pure (giveOut fit stock (giveV fit stock (f + 1) job st)) := by
  have hfl := hc.fl
  have hrec := giveV_post hc f
  have hl := fit_get hc job
  have hlb : (fit.getD job.toNat []).length ≤ 10 := by
    have := nodup_bound n _ hl.1 hl.2
    have := hc.nl
    omega
  unfold S_parts_task_give
  simp only [ofNat_def, M.req_True, M.req_true hj, mval_def]
  show _ = M.pure (giveOut fit stock (giveL stock (giveV fit stock f) job (fit.getD job.toNat []) st))
  generalize fit.getD job.toNat [] = l at hl hlb
  rw [M.loop_list l (fun i (b : GSt) => (job, l, (l.length : Int), (i : Int), fit, stock, b.1, b.2, ())) (fun s b => Step.mapD (fun r => .done (giveOut fit stock r)) (gStep stock (giveV fit stock f) job s b)) (fun b => .next (fit, stock, b.1, b.2, ())) (fun i b => LI n fit.length st l i b) st ?_ ?_ ?_ ?_]
  · unfold giveL
    rw [foldS_P, foldS_P, foldP_mapD]
    cases foldP (gStep stock (giveV fit stock f) job) l st <;> (simp only [Step.mapD, Step.fin, M.bind_pure, M.go_next, M.go_done]; try rfl)
  · rfl
  · exact ⟨h0.1, fun k => ⟨Int.le_refl _, by simp⟩⟩
  · intro i hi b hb
    have hs := hl.2 _ (List.getElem_mem hi)
    have hwi := wrap64 (n := (i : Int) + 1) (by omega) (by omega)
    have hsm := LI_small h0 hb l[i]
    have hwm := wrap64 (n := mval b.2 l[i] + 1) (by omega) (by omega)
    have hbl : b.1.length ≤ 10 := by have := hb.1; omega
    have hmm : mval (msetI b.2 l[i] (mval b.2 l[i] + 1)) l[i] = mval b.2 l[i] + 1 := by rw [mval_mset, if_pos rfl]
    have hst : 0 ≤ l[i] ∧ l[i] < (stock.length : Int) := by rw [hc.sl]; exact hs
    have hjw : 0 ≤ job ∧ job < (b.1.length : Int) := by rw [hb.1]; exact hj
    simp only [ofNat_def, lt_len hi, if_true, getD_nat hi, in_len hi, M.req_True, add_def, hwm, hmm]
    by_cases h1 : mval b.2 l[i] + 1 > 1
    · have hg : gStep stock (giveV fit stock f) job l[i] b = .next (b.1, msetI b.2 l[i] (mval b.2 l[i] + 1)) := by
        unfold gStep; simp only [h1, decide_true, if_true]
      rw [hg]
      refine ⟨?_, fun b' hb' => ?_⟩
      · simp only [h1, decide_true, if_true, M.bind_pure, M.go_next, hwi]
        rfl
      · cases hb'
        exact LI_skip hl.1 hi h0 hb h1
    · obtain ⟨hod, hoi⟩ := LI_mark hl.1 hi hs h0 hb h1
      simp only [h1, decide_false, Bool.false_eq_true, if_false]
      show M.bind (M.bind (shHoldersIO (l[i], fit, stock, b.1, ())) _) _ = _ ∧ _
      unfold shHoldersIO
      simp only [M.bind_det, M.req_true hbl, M.req_true hst]
      by_cases h2 : decide (((holdV b.1 l[i]).length : Int) < stock.getD l[i].toNat 0) = true
      · have hg : gStep stock (giveV fit stock f) job l[i] b = .done (true, (b.1.set job.toNat l[i], msetI b.2 l[i] (mval b.2 l[i] + 1))) := by
          unfold gStep; simp only [h1, decide_false, Bool.false_eq_true, if_false, h2, if_true]
        rw [hg]
        refine ⟨?_, fun b' hb' => by cases hb'⟩
        simp only [h2, if_true, M.req_true hjw, M.bind_pure, M.go_done]
        rfl
      · simp only [h2, Bool.false_eq_true, if_false]
        have hhl : (holdV b.1 l[i]).length ≤ 10 := by have := holdV_len b.1 l[i]; omega
        have hhj : ∀ j ∈ holdV b.1 l[i], 0 ≤ j ∧ j < (fit.length : Int) := fun j hj' => by have := mem_holdV.1 hj'; have := hb.1; omega
        have hpost := giveO_post hrec hod (holdV b.1 l[i]) hhl hhj
        have hg : gStep stock (giveV fit stock f) job l[i] b = match foldP (oStep (giveV fit stock f)) (holdV b.1 l[i]) (b.1, msetI b.2 l[i] (mval b.2 l[i] + 1)) with | .next c => .next c | .done r => .done (true, (r.2.1.set job.toNat l[i], r.2.2)) := by
          unfold gStep giveO
          simp only [h1, decide_false, Bool.false_eq_true, if_false, h2, foldS_P]
          cases hp : foldP (oStep (giveV fit stock f)) (holdV b.1 l[i]) (b.1, msetI b.2 l[i] (mval b.2 l[i] + 1)) with
          | next c => rfl
          | done r =>
            have := oStep_true _ _ _ hp
            simp only [Step.fin, this, if_true]
        refine ⟨?_, fun b' hb' => ?_⟩
        · rw [M.loop_list (holdV b.1 l[i]) (fun k (c : GSt) => (job, l[i], l, (l.length : Int), (i : Int), ((holdV b.1 l[i]).length : Int), (k : Int), holdV b.1 l[i], fit, stock, c.1, c.2, ()))
            (fun j c => Step.mapD (fun r => .done (.done (.done (giveOut fit stock (true, (r.2.1.set job.toNat l[i], r.2.2)))))) (oStep (giveV fit stock f) j c))
            (fun c => .next (job, l, (l.length : Int), (i : Int), fit, stock, c.1, c.2, ())) (fun k c => OI n fit.length (b.1, msetI b.2 l[i] (mval b.2 l[i] + 1)) k c) (b.1, msetI b.2 l[i] (mval b.2 l[i] + 1)) ?_ ?_ ?_ ?_]
          · rw [hg, foldS_P, foldP_mapD]
            cases foldP (oStep (giveV fit stock f)) (holdV b.1 l[i]) (b.1, msetI b.2 l[i] (mval b.2 l[i] + 1)) with
            | next c =>
              simp only [Step.mapD, Step.fin, M.bind_pure, M.go_next, hwi]
              rfl
            | done r =>
              simp only [Step.mapD, Step.fin, M.bind_pure, M.go_done]
              rfl
          · rfl
          · exact OI_zero hod.1
          · intro k hk c hcI
            have hwk := wrap64 (n := (k : Int) + 1) (by omega) (by omega)
            have hjk := hhj _ (List.getElem_mem hk)
            have hgd := OI_GD hod hcI (by omega)
            have hpk := hrec _ c hjk.1 hjk.2 hgd
            have hsuc := OI_succ hcI hpk
            have hpre : GPre f ((holdV b.1 l[i])[k], fit, stock, c.1, c.2, ()) := ⟨n, hc, hjk.1, hjk.2, hgd⟩
            have hjw2 : 0 ≤ job ∧ job < ((giveV fit stock f (holdV b.1 l[i])[k] c).2.1.length : Int) := by rw [hpk.1]; exact hj
            refine ⟨?_, fun b' hb' => ?_⟩
            · simp only [lt_len hk, if_true, getD_nat hk, in_len hk, M.req_True]
              show M.bind (shGive f ((holdV b.1 l[i])[k], fit, stock, c.1, c.2, ())) _ = _
              unfold shGive
              simp only [M.bind_det, M.req_true hpre, giveOut]
              unfold oStep
              by_cases hr : (giveV fit stock f (holdV b.1 l[i])[k] c).1 = true
              · simp only [hr, if_true, M.req_true hjw2, M.bind_pure]
                rfl
              · simp only [hr, Bool.false_eq_true, if_false, add_def, hwk]
                rfl
            · unfold oStep at hb'
              split at hb'
              · cases hb'
              · cases hb'
                exact hsuc
          · intro c hcI
            simp
        · have hp := hoi _ hpost
          rw [hg] at hb'
          unfold giveO at hp
          rw [foldS_P] at hp
          revert hb' hp
          cases foldP (oStep (giveV fit stock f)) (holdV b.1 l[i]) (b.1, msetI b.2 l[i] (mval b.2 l[i] + 1)) with
          | next c => intro hb' hp; cases hb'; exact hp
          | done r => intro hb'; cases hb'
  · intro b hb
    simp
theorem sGive (f : Nat) (x : GIn) : M.le (S_parts_task_give shHoldersIO (shGive f) x) (shGive (f + 1) x) := M.le_det fun h => by
  obtain ⟨job, fit, stock, work, asked, u⟩ := x
  obtain ⟨n, hc, h1, h2, h3⟩ := h
  exact eGive hc ⟨h1, h2⟩ h3
theorem shGive_zero (x : GIn) : ¬ (shGive 0 x).safe := fun ⟨n, hc, h1, h2, h3⟩ => absurd h3.2.2 (by omega)
end Go.Fer
namespace Go.Fer
open M (Step)
set_option linter.unusedVariables false
set_option linter.unusedSimpArgs false
abbrev fcBegin1 : FC := ⟨tI, tB, fun _ => True, fun x => decide (0 ≤ x) && decide (x ≤ 10)⟩
theorem sBegin1 (x) : M.le (S_parts_begin_c1 fcWithin.sh x) (fcBegin1.sh x) := M.le_det fun _ => by
  unfold S_parts_begin_c1
  simp only [FC.sh, M.bind_det, M.req_True]
abbrev fcBegin2 : FC := ⟨.prod (.prod tI tI) (.ptr tW), tB, fun x => ∃ w, x.2 = some w ∧ smallW w, fun x => isSlotOfV (x.2.getD ([], [], 0, [])) x.1.1 x.1.2⟩
theorem sBegin2 (x) : M.le (S_parts_begin_c2 fcIsSlotOf.sh x) (fcBegin2.sh x) := M.le_det fun h => by
  obtain ⟨n, o⟩ := x
  obtain ⟨w, hf, h1⟩ := h
  change o = some w at hf
  subst hf
  unfold S_parts_begin_c2
  simp only [FC.sh, M.bind_det, Option.getD_some]
  rw [M.req_true (by exact h1)]
abbrev tJob : Ty := .prod tI tI
abbrev tJobs : Ty := .slice tJob
def fitJ (w : Wsh) (j : Int × Int) : List Int := ((List.range w.1.length).filter fun (i : Nat) => decide (fitsV w (i : Int) j.1 j.2 = 1)).map fun (i : Nat) => (i : Int)
def taskFit (w : Wsh) (jobs : List (Int × Int)) : List (List Int) := jobs.map (fitJ w)
def workV (w : Wsh) (stock : List Int) (jobs : List (Int × Int)) : List Int :=
  (List.range jobs.length).foldl (fun work (j : Nat) => (giveV (taskFit w jobs) stock 11 (j : Int) (work, [])).2.1) (List.replicate jobs.length (-1))
def isTaskV (w : Wsh) (stock : List Int) (jobs : List (Int × Int)) : Bool :=
  decide (stock.length = w.1.length) && stock.all (fun n => decide (0 ≤ n) && decide (n ≤ 10)) && decide (jobs.length ≤ 10) && jobs.all fun j => isSlotOfV w j.1 j.2
abbrev Tsk := List (List Int) × List Int × List Int
def beginV (w : Wsh) (stock : List Int) (jobs : List (Int × Int)) : Option Tsk × Int :=
  if knownV w (isTaskV w stock jobs) ≠ 0 then (none, knownV w (isTaskV w stock jobs)) else (some (taskFit w jobs, stock, workV w stock jobs), 0)
theorem nodup_map_int (p : Nat → Bool) (n : Nat) : (((List.range n).filter p).map fun (i : Nat) => (i : Int)).Nodup := by
  exact List.Pairwise.map _ (fun a b (h : a ≠ b) => by omega) (List.nodup_range.filter p)
theorem isTaskV_iff {w : Wsh} {stock : List Int} {jobs : List (Int × Int)} : isTaskV w stock jobs = true ↔ stock.length = w.1.length ∧ (∀ n ∈ stock, 0 ≤ n ∧ n ≤ 10) ∧ jobs.length ≤ 10 ∧ ∀ j ∈ jobs, isSlotOfV w j.1 j.2 = true := by
  simp only [isTaskV, Bool.and_eq_true, decide_eq_true_eq, List.all_eq_true, and_assoc]
theorem task_GC {w : Wsh} (hw : goodW w) {stock : List Int} {jobs : List (Int × Int)} (h : isTaskV w stock jobs = true) : GC w.1.length (taskFit w jobs) stock := by
  have hhd := wV_head hw.2
  have ht := isTaskV_iff.1 h
  refine ⟨hhd.1, by simp [taskFit]; exact ht.2.2.1, ht.1, fun l hl => ?_⟩
  obtain ⟨j, _, rfl⟩ := List.mem_map.1 hl
  refine ⟨nodup_map_int _ _, fun s hs => ?_⟩
  simp only [fitJ, List.mem_map, List.mem_filter, List.mem_range] at hs
  obtain ⟨i, ⟨hi, _⟩, rfl⟩ := hs
  omega
theorem GD_nil {n J : Nat} {work : List Int} (hn : n ≤ 10) (h : work.length = J) : GD n J 11 (work, []) := by
  have hu : unas n [] ≤ n := by
    unfold unas
    exact Nat.le_trans List.countP_le_length (by simp)
  have hm : ∀ k, mval [] k = 0 := fun k => rfl
  refine ⟨h, fun k => ?_, by show unas n [] < 11; omega⟩
  show 0 ≤ mval [] k ∧ mval [] k + 10 * (unas n [] : Int) + (11 : Nat) ≤ 1000
  rw [hm]
  omega
theorem eBegin (w : Wsh) (stock : List Int) (jobs : List (Int × Int)) (h : smallW w) (hs : stock.length < 2 ^ 63) (hj : jobs.length < 2 ^ 63) :
    S_parts_begin fcOpen.sh fcShopFits.sh (fcAllF tI).sh (fcAllF tJob).sh shRepeat (shGive 11) fcBegin2.sh fcBegin1.sh (w, stock, jobs) = M.pure (beginV w stock jobs) := by
  unfold S_parts_begin
  have hcl1 : ∀ y ∈ stock, ∃ b, fcBegin1.sh y = M.pure b := fun y _ => ⟨_, M.det_true trivial _⟩
  have hcl2 : ∀ y ∈ jobs, fcBegin2.sh (y, some w) = M.pure (isSlotOfV w y.1 y.2) := fun y _ => M.det_true ⟨w, rfl, h⟩ _
  have hp1 : (fcAllF tI).pre (stock, fcBegin1.sh) := ⟨hs, hcl1⟩
  have hp2 : (fcAllF tJob).pre (jobs, fun x_1 => fcBegin2.sh (x_1, some w)) := ⟨hj, fun y hy => ⟨_, hcl2 y hy⟩⟩
  have e1 : (fcAllF tI).g (stock, fcBegin1.sh) = stock.all (fun n => decide (0 ≤ n) && decide (n ≤ 10)) := all_congr' fun y _ => M.val_det
  have e2 : (fcAllF tJob).g (jobs, fun x_1 => fcBegin2.sh (x_1, some w)) = jobs.all fun j => isSlotOfV w j.1 j.2 := all_congr' fun y hy => by show (fcBegin2.sh (y, some w)).val false = _; rw [hcl2 y hy]; exact M.val_pure
  show M.bind (gdo _ (M.det ((fcAllF tI).pre (stock, fcBegin1.sh)) ((fcAllF tI).g (stock, fcBegin1.sh))) _) _ = _
  rw [M.det_true hp1, e1]
  simp only [M.gdo_pure, M.bind_pure]
  show M.bind (gdo _ (M.det ((fcAllF tJob).pre (jobs, fun x_1 => fcBegin2.sh (x_1, some w))) ((fcAllF tJob).g (jobs, fun x_1 => fcBegin2.sh (x_1, some w)))) _) _ = _
  rw [M.det_true hp2, e2]
  simp only [M.gdo_pure, M.bind_pure, and_gdo]
  have hb : (decide (Int.ofNat stock.length = Int.ofNat w.1.length) && stock.all (fun n => decide (0 ≤ n) && decide (n ≤ 10)) && decide (Int.ofNat jobs.length ≤ 10) && jobs.all fun j => isSlotOfV w j.1 j.2) = isTaskV w stock jobs := by
    unfold isTaskV
    have a1 : decide (Int.ofNat stock.length = Int.ofNat w.1.length) = decide (stock.length = w.1.length) := by rw [decide_eq_decide]; simp only [ofNat_def]; omega
    have a2 : decide (Int.ofNat jobs.length ≤ 10) = decide (jobs.length ≤ 10) := by rw [decide_eq_decide]; simp only [ofNat_def]; omega
    rw [a1, a2]
  rw [hb]
  have hpo : fcOpen.pre (w, isTaskV w stock jobs) := h
  simp only [FC.sh, M.bind_det]
  rw [M.req_true (by exact h)]
  unfold beginV
  by_cases hk : knownV w (isTaskV w stock jobs) = 0
  · have hw := good_of_known h hk
    have hhd := wV_head hw.2
    have hit := (knownV_0 hk).2.1
    have ht := isTaskV_iff.1 hit
    have hgc := task_GC hw hit
    simp only [openV_0 hk, hk, ne_eq, not_true, decide_false, Bool.false_eq_true, if_false]
    have hrp : ([-1] : List Int) = [-1] ∧ 0 ≤ (jobs.length : Int) ∧ (jobs.length : Int) ≤ 10 := ⟨rfl, by omega, by omega⟩
    unfold shRepeat
    simp only [ofNat_def, M.bind_det]
    rw [M.req_true (by exact ⟨trivial, hrp.2⟩)]
    simp only [Int.toNat_natCast]
    rw [M.loop_list jobs (fun i (fit : List (List Int)) => (jobs, some (w, lensAll w), jobs, (jobs.length : Int), (i : Int), w, stock, fit, List.replicate jobs.length (-1), ())) (fun j fit => .next (fit ++ [fitJ w j])) (fun fit => .next (jobs, stock, fit, List.replicate jobs.length (-1), ())) (fun i fit => fit.length ≤ i) [] ?_ ?_ ?_ ?_]
    · rw [foldS_next, foldl_map_app]
      simp only [M.bind_pure, M.go_next, List.nil_append]
      show M.bind (M.loop _ ((jobs.length : Int), 0, taskFit w jobs, stock, List.replicate jobs.length (-1), ())) _ = _
      have htl : (taskFit w jobs).length = jobs.length := by simp [taskFit]
      rw [M.loop_list (List.range jobs.length) (fun i (work : List Int) => ((jobs.length : Int), (i : Int), taskFit w jobs, stock, work, ())) (fun (j : Nat) work => .next (giveV (taskFit w jobs) stock 11 (j : Int) (work, [])).2.1) (fun work => .next (taskFit w jobs, stock, work, ())) (fun i work => work.length = jobs.length) (List.replicate jobs.length (-1)) ?_ ?_ ?_ ?_]
      · rw [foldS_next]
        simp only [M.bind_pure, M.go_next]
        rfl
      · rfl
      · simp
      · intro j hj work hwk
        have hj : j < jobs.length := by simpa using hj
        have hwj := wrap64 (n := (j : Int) + 1) (by omega) (by omega)
        have hgd : GD w.1.length (taskFit w jobs).length 11 (work, []) := GD_nil hhd.1 (by rw [htl]; exact hwk)
        have hpre : GPre 11 ((j : Int), taskFit w jobs, stock, work, [], ()) := ⟨w.1.length, hgc, by show (0 : Int) ≤ (j : Int); omega, by show (j : Int) < ((taskFit w jobs).length : Int); rw [htl]; omega, hgd⟩
        have hpost := giveV_post hgc 11 (j : Int) (work, []) (by omega) (by rw [htl]; omega) hgd
        refine ⟨?_, fun b' hb' => ?_⟩
        · unfold shGive
          simp only [lt_len hj, if_true, List.getElem_range, M.bind_det]
          rw [M.req_true (by exact hpre)]
          simp only [giveOut, add_def, hwj]
          rfl
        · cases hb'
          rw [List.getElem_range, hpost.1, htl]
      · intro work hwk
        simp
    · rfl
    · simp
    · intro i hi fit hfit
      have hwi := wrap64 (n := (i : Int) + 1) (by omega) (by omega)
      have hsl := ht.2.2.2 jobs[i] (List.getElem_mem hi)
      have hll2 : lenLe (fit.length + (0 + 1)) := by unfold lenLe; omega
      refine ⟨?_, fun b' hb' => ?_⟩
      · simp only [lt_len hi, if_true, getD_nat hi, in_len hi, M.req_True]
        rw [M.loop_list (List.range w.1.length) (fun s (l : List Int) => (jobs, some (w, lensAll w), jobs, (jobs.length : Int), (i : Int), (w.1.length : Int), (s : Int), w, jobs[i], l, stock, fit, List.replicate jobs.length (-1), ())) (fun (s : Nat) l => .next (if decide (fitsV w (s : Int) jobs[i].1 jobs[i].2 = 1) = true then l ++ [(s : Int)] else l)) (fun l => .next (jobs, some (w, lensAll w), jobs, (jobs.length : Int), (i : Int), w, l, stock, fit, List.replicate jobs.length (-1), ())) (fun s l => l.length ≤ s) [] ?_ ?_ ?_ ?_]
        · rw [foldS_next, foldl_filter_map]
          simp only [M.bind_pure, M.go_next, List.nil_append, add_defN, M.req_true hll2, add_def, hwi]
          rfl
        · rfl
        · simp
        · intro s hs l hl
          have hs : s < w.1.length := by simpa using hs
          have hwsp := wrap64 (n := (s : Int) + 1) (by omega) (by omega)
          have hll : lenLe (l.length + (0 + 1)) := by unfold lenLe; omega
          have hisp : isSpareV w (s : Int) = true := isSpareV_iff.2 ⟨by omega, by omega⟩
          have hpf : ∃ w', isShop (some (w, lensAll w)) w' ∧ isSpareV w' (s : Int) = true ∧ isSlotOfV w' jobs[i].1 jobs[i].2 = true := ⟨w, ⟨rfl, hw⟩, hisp, hsl⟩
          refine ⟨?_, fun b' hb' => ?_⟩
          · simp only [lt_len hs, if_true, List.getElem_range, M.req_true hpf, Option.getD_some]
            by_cases hc : decide (fitsV w (s : Int) jobs[i].1 jobs[i].2 = 1) = true
            · simp only [hc, if_true, M.req_true hll, M.bind_pure, M.go_next, hwsp, add_defN, add_def]; rfl
            · simp only [hc, Bool.false_eq_true, if_false, M.bind_pure, M.go_next, hwsp, add_def]; rfl
          · cases hb'
            split <;> (try simp only [List.length_append, List.length_singleton]) <;> omega
        · intro l hl
          simp
      · cases hb'
        simp only [List.length_append, List.length_singleton]
        omega
    · intro fit hfit
      simp
  · simp [openV_1 hk, hk]
abbrev taskP (x : Wsh × List Int × List (Int × Int)) : Prop := smallW x.1 ∧ x.2.1.length < 2 ^ 63 ∧ x.2.2.length < 2 ^ 63
abbrev tTaskIn : Ty := .prod tW (.prod tInts tJobs)
abbrev fcBegin : FC := ⟨tTaskIn, .prod tTaskP tI, taskP, fun x => beginV x.1 x.2.1 x.2.2⟩
theorem sBegin (x) : M.le (S_parts_begin fcOpen.sh fcShopFits.sh (fcAllF tI).sh (fcAllF tJob).sh shRepeat (shGive 11) fcBegin2.sh fcBegin1.sh x) (fcBegin.sh x) := M.le_det fun h => eBegin x.1 x.2.1 x.2.2 h.1 h.2.1 h.2.2
theorem workV_len (w : Wsh) (hw : goodW w) {stock : List Int} {jobs : List (Int × Int)} (h : isTaskV w stock jobs = true) : (workV w stock jobs).length = jobs.length := by
  have hhd := wV_head hw.2
  have hgc := task_GC hw h
  have htl : (taskFit w jobs).length = jobs.length := by simp [taskFit]
  unfold workV
  have key : ∀ (l : List Nat) (work : List Int), (∀ j ∈ l, j < jobs.length) → work.length = jobs.length → (l.foldl (fun work (j : Nat) => (giveV (taskFit w jobs) stock 11 (j : Int) (work, [])).2.1) work).length = jobs.length := by
    intro l
    induction l with
    | nil => intro work _ h; exact h
    | cons j l ih =>
      intro work hl hwk
      have hj := hl j (by simp)
      have hgd : GD w.1.length (taskFit w jobs).length 11 (work, []) := GD_nil hhd.1 (by rw [htl]; exact hwk)
      have hpost := giveV_post hgc 11 (j : Int) (work, []) (by omega) (by rw [htl]; omega) hgd
      exact ih _ (fun y hy => hl y (List.mem_cons_of_mem _ hy)) (by rw [hpost.1, htl])
  exact key _ _ (fun j hj => by simpa using hj) (by simp)
theorem begin_0 {w : Wsh} {stock : List Int} {jobs : List (Int × Int)} (h : knownV w (isTaskV w stock jobs) = 0) : beginV w stock jobs = (some (taskFit w jobs, stock, workV w stock jobs), 0) := by simp [beginV, h]
theorem begin_1 {w : Wsh} {stock : List Int} {jobs : List (Int × Int)} (h : knownV w (isTaskV w stock jobs) ≠ 0) : beginV w stock jobs = (none, knownV w (isTaskV w stock jobs)) := by simp [beginV, h]
def mostP (w : Wsh) (stock : List Int) (jobs : List (Int × Int)) : Int × Int :=
  if knownV w (isTaskV w stock jobs) ≠ 0 then (0, knownV w (isTaskV w stock jobs)) else ((jobs.length : Int) - ((holdV (workV w stock jobs) (-1)).length : Int), 0)
abbrev fcPMost : FC := ⟨tTaskIn, .prod tI tI, taskP, fun x => mostP x.1 x.2.1 x.2.2⟩
theorem sPMost (x) : M.le (S_parts_Most fcBegin.sh fcHolders.sh x) (fcPMost.sh x) := M.le_det fun h => by
  obtain ⟨w, stock, jobs⟩ := x
  have hp := h
  unfold S_parts_Most
  simp only [FC.sh, M.bind_det, M.req_true hp]
  unfold mostP
  by_cases hk : knownV w (isTaskV w stock jobs) = 0
  · have hw := good_of_known h.1 hk
    have hit := (knownV_0 hk).2.1
    have ht := isTaskV_iff.1 hit
    have hwl := workV_len w hw hit
    have hhl := holdV_len (workV w stock jobs) (-1)
    simp only [begin_0 hk, hk, ne_eq, not_true, decide_false, Bool.false_eq_true, if_false, Option.getD_some, ofNat_def]
    rw [M.req_true (by exact ⟨_, rfl, by show (workV w stock jobs).length ≤ 10; omega⟩)]
    have hww := wrap64 (n := (jobs.length : Int) - ((holdV (workV w stock jobs) (-1)).length : Int)) (by omega) (by omega)
    rw [hww]
  · simp [begin_1 hk, hk]
def workP (w : Wsh) (stock : List Int) (jobs : List (Int × Int)) : List Int × Int :=
  if knownV w (isTaskV w stock jobs) ≠ 0 then ([], knownV w (isTaskV w stock jobs)) else (workV w stock jobs, 0)
end Go.Fer
namespace Go.Fer
open M (Step)
set_option linter.unusedVariables false
set_option linter.unusedSimpArgs false
theorem getD_ext {a b : List Int} (h : a.length = b.length) : ((List.range a.length).all fun i => decide (a.getD i 0 = b.getD i 0)) = decide (a = b) := by
  rw [Bool.eq_iff_iff]
  simp only [List.all_eq_true, List.mem_range, decide_eq_true_eq]
  constructor
  · intro hh
    refine List.ext_getElem h fun i h1 h2 => ?_
    have := hh i h1
    rwa [List.getD_eq_getElem?_getD, List.getD_eq_getElem?_getD, List.getElem?_eq_getElem h1, List.getElem?_eq_getElem h2] at this
  · rintro rfl i _
    rfl
abbrev fcSameInts : FC := ⟨.prod tInts tInts, tB, fun x => x.1.length < 2 ^ 63 ∧ x.2.length < 2 ^ 63, fun x => decide (x.1 = x.2)⟩
theorem eSameInts (a b : List Int) (h1 : a.length < 2 ^ 63) : S_law07_sameInts (a, b) = M.pure (decide (a = b)) := by
  unfold S_law07_sameInts
  by_cases hl : a.length = b.length
  · have e : decide (Int.ofNat a.length ≠ Int.ofNat b.length) = false := by simp [hl]
    simp only [e, Bool.false_eq_true, if_false]
    rw [M.loop_listT (List.range a.length) (fun i (_ : Unit) => (a, b, (i : Int), ())) (fun (i : Nat) u => if decide (a.getD i 0 ≠ b.getD i 0) = true then .done (.done false) else .next u) (fun _ => .next ()) () ?_ ?_ ?_]
    · rw [foldS_anyN (q := fun (i : Nat) => decide (a.getD i 0 = b.getD i 0)) _ _ (fun i => by simp), getD_ext hl]
      by_cases h : a = b
      · simp only [h, decide_true, if_true, M.bind_pure, M.go_next]
      · simp only [h, decide_false, Bool.false_eq_true, if_false, M.bind_pure, M.go_done]
    · rfl
    · intro i hi u
      have hi : i < a.length := by simpa using hi
      have hi2 : i < b.length := by omega
      have hwi := wrap64 (n := (i : Int) + 1) (by omega) (by omega)
      simp only [ofNat_def, lt_len hi, if_true, in_len hi, in_len hi2, M.req_True, List.getElem_range, Int.toNat_natCast, M.bind_pure, add_def, hwi]
      exact fin_step (mk := fun _ : Unit => (a, b, (i : Int) + 1, ()))
    · intro u
      simp
  · have e : decide (Int.ofNat a.length ≠ Int.ofNat b.length) = true := by simp; omega
    have hn : ¬ a = b := fun e => hl (e ▸ rfl)
    simp only [e, if_true, hn, decide_false]
theorem sSameInts (x) : M.le (S_law07_sameInts x) (fcSameInts.sh x) := M.le_det fun h => eSameInts x.1 x.2 h.1
def copyW (w : Wsh) : Prop := w.1.length ≤ 1000 ∧ w.2.1.length ≤ 1000 ∧ w.2.2.2.length ≤ 1000 ∧ ∀ m ∈ w.2.1, m.length ≤ 1000 ∧ ∀ s ∈ m, s.2.1.length ≤ 1000
theorem copyW.small {w : Wsh} (h : copyW w) : smallW w := ⟨by have := h.1; omega, by have := h.2.1; omega, by have := h.2.2.1; omega, fun m hm => ⟨by have := (h.2.2.2 m hm).1; omega, fun s hs => by have := (h.2.2.2 m hm).2 s hs; omega⟩⟩
noncomputable def shCopyIO (x : Wsh × Unit) : M (Int × List (Int × Int × Int × Int) × List (Int × Int × Int × Int) × List (List (Int × List Int × Int × Int)) × Unit) :=
  M.det (copyW x.1) (x.1.2.2.1, x.1.1, x.1.2.2.2, x.1.2.1, ())
theorem sCopyIO (x) : M.le (S_ref07_CopyIO x) (shCopyIO x) := M.le_det fun h => by
  obtain ⟨w, u⟩ := x
  obtain ⟨h1, h2, h3, h4⟩ := h
  change w.1.length ≤ 1000 at h1
  change w.2.1.length ≤ 1000 at h2
  change w.2.2.2.length ≤ 1000 at h3
  change ∀ m ∈ w.2.1, m.length ≤ 1000 ∧ ∀ s ∈ m, s.2.1.length ≤ 1000 at h4
  unfold S_ref07_CopyIO
  have r1 : lenLe (0 + w.1.length) := by unfold lenLe; omega
  have r2 : lenLe (0 + w.2.2.2.length) := by unfold lenLe; omega
  simp only [add_defN, M.req_true r1, M.req_true r2, List.nil_append]
  rw [M.loop_list w.2.1 (fun i (out : List (List (Int × List Int × Int × Int))) => ((i : Int), w, 0, w.2.2.1, w.1, w.2.2.2, out, ())) (fun m out => .next (out ++ [m])) (fun out => .next (0, w.2.2.1, w.1, w.2.2.2, out, ())) (fun i out => out.length ≤ i) [] ?_ ?_ ?_ ?_]
  · rw [foldS_next, foldl_map_app (g := fun m => m)]
    simp only [M.bind_pure, M.go_next, List.nil_append, List.map_id_fun', id_eq]
  · rfl
  · simp
  · intro i hi out hout
    have hm := h4 w.2.1[i] (List.getElem_mem hi)
    have hwi := wrap64 (n := (i : Int) + 1) (by omega) (by omega)
    have r3 : lenLe (0 + w.2.1[i].length) := by have := hm.1; unfold lenLe; omega
    have r4 : lenLe (out.length + (0 + 1)) := by unfold lenLe; omega
    refine ⟨?_, fun b' hb' => ?_⟩
    · simp only [ofNat_def, lt_len hi, if_true, in_len hi, M.req_True, getD_nat hi, M.req_true r3]
      rw [M.loop_listT w.2.1[i] (fun k (_ : Unit) => ((i : Int), (k : Int), w, 0, w.2.2.1, w.1, w.2.2.2, w.2.1[i], out, ())) (fun s u => .next u) (fun _ => .next ((i : Int), w, 0, w.2.2.1, w.1, w.2.2.2, w.2.1[i], out, ())) () ?_ ?_ ?_]
      · rw [foldS_next]
        simp only [M.bind_pure, M.go_next, M.req_true r4, add_def, hwi]
        rfl
      · rfl
      · intro k hk u
        have hs := hm.2 _ (List.getElem_mem hk)
        have hkl := hm.1
        have hwk := wrap64 (n := (k : Int) + 1) (by omega) (by omega)
        have r5 : lenLe (0 + (w.2.1[i])[k].2.1.length) := by unfold lenLe; omega
        have hset : (w.2.1[i]).set k ((w.2.1[i])[k].1, (w.2.1[i])[k].2.1, (w.2.1[i])[k].2.2) = w.2.1[i] := List.set_getElem_self hk
        simp only [lt_len hk, if_true, in_len hk, M.req_True, getD_nat hk, M.req_true r5, add_def, hwk]
        rw [Int.toNat_natCast, hset]
        rfl
      · intro u
        simp
    · cases hb'
      simp only [List.length_append, List.length_singleton]
      omega
  · intro out hout
    simp
end Go.Fer
namespace Go.Fer
open M (Step)
set_option linter.unusedVariables false
set_option linter.unusedSimpArgs false
def farM (m : List (Int × List Int × Int × Int)) : Bool := decide ((m.length : Int) > 20) || m.any fun s => decide ((s.2.1.length : Int) > 20)
def farV (w : Wsh) : Bool :=
  if (decide ((w.1.length : Int) > 40) || decide ((w.2.1.length : Int) > 40) || decide ((w.2.2.2.length : Int) > 60)) = true then true
  else if w.2.1.any farM = true then true
  else if checkV w ≠ 0 then false
  else if (w.1.any fun s => decide (IntKind.i64.wrap (s.2.2.2 - s.2.2.1) ≥ 50)) = true then true
  else decide ((w.1.length : Int) > 6) || decide ((w.2.1.length : Int) > 4) || decide ((w.2.2.2.length : Int) > 10)
theorem far_copy {w : Wsh} (h : farV w = false) : copyW w := by
  unfold farV at h
  split at h
  · cases h
  · rename_i h1
    split at h
    · cases h
    · rename_i h2
      simp only [Bool.or_eq_true, decide_eq_true_eq, not_or] at h1
      refine ⟨by omega, by omega, by omega, fun m hm => ?_⟩
      have hf : farM m = false := by
        rw [Bool.not_eq_true, List.any_eq_false] at h2
        simpa using h2 m hm
      unfold farM at hf
      rw [Bool.or_eq_false_iff] at hf
      have h3 := hf.1
      rw [decide_eq_false_iff_not] at h3
      refine ⟨by omega, fun s hs => ?_⟩
      have h4 := List.any_eq_false.1 hf.2 s hs
      rw [decide_eq_true_eq] at h4
      omega
abbrev fcFar : FC := ⟨tW, tB, smallW, farV⟩
theorem eFar (w : Wsh) (h : smallW w) : S_law07_Far fcCheck.sh w = M.pure (farV w) := by
  unfold S_law07_Far farV
  simp only [ofNat_def]
  by_cases h1 : (decide ((w.1.length : Int) > 40) || decide ((w.2.1.length : Int) > 40) || decide ((w.2.2.2.length : Int) > 60)) = true
  · rw [if_pos h1, if_pos h1]
  · rw [if_neg h1, if_neg h1]
    have hl := h
    obtain ⟨q1, q2, q3, q4⟩ := h
    rw [M.loop_listT w.2.1 (fun i (_ : Unit) => ((i : Int), w, ())) (fun m u => if farM m = true then .done (.done true) else .next u) (fun _ => .next (w, ())) () ?_ ?_ ?_]
    · rw [foldS_any]
      by_cases h2 : w.2.1.any farM = true
      · simp only [h2, if_true, M.bind_pure, M.go_done]
      · simp only [h2, Bool.false_eq_true, if_false, M.bind_pure, M.go_next, FC.sh, M.bind_det, M.req_true hl]
        by_cases h3 : checkV w = 0
        · simp only [h3, ne_eq, not_true, decide_false, Bool.false_eq_true, if_false]
          rw [M.loop_listT w.1 (fun i (_ : Unit) => ((i : Int), w, ())) (fun s u => if decide (IntKind.i64.wrap (s.2.2.2 - s.2.2.1) ≥ 50) = true then .done (.done true) else .next u) (fun _ => .next (w, ())) () ?_ ?_ ?_]
          · rw [foldS_any]
            by_cases h4 : (w.1.any fun s => decide (IntKind.i64.wrap (s.2.2.2 - s.2.2.1) ≥ 50)) = true
            · simp only [h4, if_true, M.bind_pure, M.go_done]
            · simp only [h4, Bool.false_eq_true, if_false, M.bind_pure, M.go_next]
          · rfl
          · intro i hi u
            have hwi := wrap64 (n := (i : Int) + 1) (by omega) (by omega)
            simp only [ofNat_def, lt_len hi, if_true, in_len hi, M.req_True, getD_nat hi, M.bind_pure, add_def, hwi]
            exact fin_step (mk := fun _ : Unit => ((i : Int) + 1, w, ()))
          · intro u
            simp
        · simp only [h3, ne_eq, not_false_iff, decide_true, if_true]
    · rfl
    · intro i hi u
      have hwi := wrap64 (n := (i : Int) + 1) (by omega) (by omega)
      have hm := q4 _ (List.getElem_mem hi)
      simp only [ofNat_def, lt_len hi, if_true, in_len hi, M.req_True, getD_nat hi, M.bind_pure]
      by_cases h5 : decide ((w.2.1[i].length : Int) > 20) = true
      · have hf : farM w.2.1[i] = true := by unfold farM; rw [h5]; rfl
        simp only [h5, if_true, M.bind_pure, M.go_done, hf]
        rfl
      · have hf : farM w.2.1[i] = w.2.1[i].any fun s => decide ((s.2.1.length : Int) > 20) := by unfold farM; rw [Bool.not_eq_true] at h5; rw [h5]; rfl
        rw [if_neg h5]
        rw [M.loop_listT w.2.1[i] (fun k (_ : Unit) => ((i : Int), (k : Int), w, ())) (fun s u => if decide ((s.2.1.length : Int) > 20) = true then .done (.done (.done (.done true))) else .next u) (fun _ => .next ((i : Int), w, ())) () ?_ ?_ ?_]
        · rw [foldS_any, hf]
          by_cases h6 : (w.2.1[i].any fun s => decide ((s.2.1.length : Int) > 20)) = true
          · simp only [h6, if_true, M.bind_pure, M.go_done]; rfl
          · simp only [h6, Bool.false_eq_true, if_false, M.bind_pure, M.go_next, add_def, hwi]; rfl
        · rfl
        · intro k hk u
          have hwk := wrap64 (n := (k : Int) + 1) (by omega) (by omega)
          simp only [in_len hi, M.req_True, getD_nat hi, lt_len hk, if_true, in_len hk, getD_nat hk, M.bind_pure, add_def, hwk]
          exact fin_step (mk := fun _ : Unit => ((i : Int), (k : Int) + 1, w, ()))
        · intro u
          simp only [in_len hi, M.req_True, getD_nat hi, Int.lt_irrefl, decide_false, Bool.false_eq_true, if_false, M.bind_pure]
    · intro u
      simp
theorem sFar (x) : M.le (S_law07_Far fcCheck.sh x) (fcFar.sh x) := M.le_det fun h => eFar x h
def readyV (w : Wsh) : Bool := !farV w && decide (knownV w true = 0)
abbrev fcReady : FC := ⟨tW, tB, smallW, readyV⟩
theorem sReady (x) : M.le (S_law07_ready fcFar.sh fcKnown.sh x) (fcReady.sh x) := M.le_det fun h => by
  have hp := h
  unfold S_law07_ready
  simp only [FC.sh, M.bind_det, M.req_true hp, M.gdo_det]
  rw [M.req_true (by exact fun _ => hp)]
  unfold readyV
  cases farV x <;> simp
theorem ready_of {w : Wsh} (h : readyV w = true) : copyW w ∧ knownV w true = 0 := by
  unfold readyV at h
  simp only [Bool.and_eq_true, Bool.not_eq_true', decide_eq_true_eq] at h
  exact ⟨far_copy h.1, h.2⟩
def exW : Wsh := ([(1, 2, 300, 310), (1, 3, 305, 305), (2, 1, 50, 60), (1, 2, 320, 330)], [[(1, [2, 3], 300, 306), (2, [1], 40, 58)], [(1, [2], 310, 326)]], 5, [(0, 1, 0, 0)])
def exJ : List (Int × Int) := [(0, 0), (0, 0), (0, 1), (1, 0)]
abbrev fcExample : FC := ⟨.unit, tW, fun _ => True, fun _ => exW⟩
theorem sExample (x) : M.le (S_law07_Example x) (fcExample.sh x) := M.le_det fun _ => rfl
abbrev fcJobs : FC := ⟨.unit, tJobs, fun _ => True, fun _ => exJ⟩
theorem sJobs (x) : M.le (S_law07_Jobs x) (fcJobs.sh x) := M.le_det fun _ => rfl
theorem exW_small : smallW exW := by
  refine ⟨by decide, by decide, by decide, ?_⟩
  intro m hm
  simp only [exW, List.mem_cons, List.not_mem_nil, or_false] at hm
  rcases hm with rfl | rfl
  · refine ⟨by decide, fun s hs => ?_⟩
    simp only [List.mem_cons, List.not_mem_nil, or_false] at hs
    rcases hs with rfl | rfl <;> decide
  · refine ⟨by decide, fun s hs => ?_⟩
    simp only [List.mem_cons, List.not_mem_nil, or_false] at hs
    rcases hs with rfl; decide
theorem ex_length : fcLength.g (exW, 0) = ((300, 309), 0) := by decide +kernel
theorem ex_fewest : fewestR exW = (3, 0) := by decide +kernel
theorem ex_needed : neededR exW = ([2, 3], 0) := by decide +kernel
theorem ex_most : mostP exW [1, 0, 1, 1] exJ = (3, 0) := by decide +kernel
abbrev fcWorks : FC := ⟨.unit, tB, fun _ => True, fun _ => true⟩
theorem sWorks (x) : M.le (S_law07_works fcPFewest.sh fcPNeeded.sh fcPMost.sh fcSameInts.sh fcLength.sh fcExample.sh fcJobs.sh x) (fcWorks.sh x) := M.le_det fun _ => by
  have h := exW_small
  have hm : taskP (exW, [1, 0, 1, 1], exJ) := ⟨h, by show 4 < 2 ^ 63; decide, by show 4 < 2 ^ 63; decide⟩
  have hs : ([2, 3] : List Int).length < 2 ^ 63 ∧ ([2, 3] : List Int).length < 2 ^ 63 := ⟨by decide, by decide⟩
  unfold S_law07_works
  simp only [FC.sh, M.bind_det, M.safe_det, M.val_det, M.req_True, M.gdo_det, ex_fewest, ex_needed]
  rw [M.req_true (by exact h), M.req_true (by exact h), M.req_true (by exact hm), M.req_true (by exact h)]
  rw [M.req_true (by exact fun _ => hs)]
  have hl : lengthV exW 0 = ((300, 309), 0) := ex_length
  rw [hl, ex_most]
  rfl
end Go.Fer
namespace Go.Fer.Sk
open Go.Proofs
open M (Step)
set_option maxRecDepth 100000
set_option linter.unusedVariables false
set_option linter.unusedSimpArgs false
noncomputable def b_k59 : Code := Try.f59.body.getD .skip
theorem b_k59_ok : Try.f59.body = some b_k59 := by kernel_rfl
noncomputable def Psi_k59 (k : Nat) : Option KC := none
theorem Psi_k59_ok : PsiOk Try.prog noU Psi_k59 := by
  intro k c h
  unfold Psi_k59 at h
  cases h
def ann_k59 : Ann := (.seq .leaf (.seq .leaf .leaf))
theorem l_k59 (x) : funI noU (tabT tab) noPhi Psi_k59 Try.f59 b_k59 ann_k59 (.prod t3 (.prod t3 t3)) t4 x = S_ref07_Within  x := by kernel_rfl
theorem spec_k59 : FnSpec Try.prog 59 (.prod t3 (.prod t3 t3)) t4 fcWithin.sh :=
  fn_ok mixOk tabOk noU_ok noPhi_ok Psi_k59_ok Try.func59 b_k59_ok (by kernel_rfl) fun x => M.le_trans (M.le_of_eq (l_k59 x)) (sWithin x)
noncomputable def b_k20 : Code := Try.f20.body.getD .skip
theorem b_k20_ok : Try.f20.body = some b_k20 := by kernel_rfl
noncomputable def Psi_k20 (k : Nat) : Option KC := if k = 59 then some (.sc ⟨(.prod t3 (.prod t3 t3)), t4, fcWithin.sh, true⟩) else none
theorem Psi_k20_ok : PsiOk Try.prog noU Psi_k20 := by
  intro k c h
  unfold Psi_k20 at h
  split at h
  · cases h; subst_vars; exact ⟨spec_k59, fun _ _ => M.det_det⟩
  cases h
def ann_k20 : Ann := (.seq .leaf (.seq .leaf .leaf))
theorem l_k20 (x) : funI noU (tabT tab) noPhi Psi_k20 Try.f20 b_k20 ann_k20 (.prod t26 t3) t4 x = S_ref07_IsSpare fcWithin.sh x := by kernel_rfl
theorem spec_k20 : FnSpec Try.prog 20 (.prod t26 t3) t4 fcIsSpare.sh :=
  fn_ok mixOk tabOk noU_ok noPhi_ok Psi_k20_ok Try.func20 b_k20_ok (by kernel_rfl) fun x => M.le_trans (M.le_of_eq (l_k20 x)) (sIsSpare x)
noncomputable def b_k62 : Code := Try.f62.body.getD .skip
theorem b_k62_ok : Try.f62.body = some b_k62 := by kernel_rfl
noncomputable def Psi_k62 (k : Nat) : Option KC := if k = 59 then some (.sc ⟨(.prod t3 (.prod t3 t3)), t4, fcWithin.sh, true⟩) else none
theorem Psi_k62_ok : PsiOk Try.prog noU Psi_k62 := by
  intro k c h
  unfold Psi_k62 at h
  split at h
  · cases h; subst_vars; exact ⟨spec_k59, fun _ _ => M.det_det⟩
  cases h
def ann_k62 : Ann := (.seq .leaf (.seq .leaf .leaf))
theorem l_k62 (x) : funI noU (tabT tab) noPhi Psi_k62 Try.f62 b_k62 ann_k62 (.prod t26 t3) t4 x = S_ref07_IsMake fcWithin.sh x := by kernel_rfl
theorem spec_k62 : FnSpec Try.prog 62 (.prod t26 t3) t4 fcIsMake.sh :=
  fn_ok mixOk tabOk noU_ok noPhi_ok Psi_k62_ok Try.func62 b_k62_ok (by kernel_rfl) fun x => M.le_trans (M.le_of_eq (l_k62 x)) (sIsMake x)
noncomputable def b_k22 : Code := Try.f22.body.getD .skip
theorem b_k22_ok : Try.f22.body = some b_k22 := by kernel_rfl
noncomputable def Psi_k22 (k : Nat) : Option KC := if k = 59 then some (.sc ⟨(.prod t3 (.prod t3 t3)), t4, fcWithin.sh, true⟩) else if k = 62 then some (.sc ⟨(.prod t26 t3), t4, fcIsMake.sh, true⟩) else none
theorem Psi_k22_ok : PsiOk Try.prog noU Psi_k22 := by
  intro k c h
  unfold Psi_k22 at h
  split at h
  · cases h; subst_vars; exact ⟨spec_k59, fun _ _ => M.det_det⟩
  split at h
  · cases h; subst_vars; exact ⟨spec_k62, fun _ _ => M.det_det⟩
  cases h
def ann_k22 : Ann := (.seq .leaf (.seq .leaf .leaf))
theorem l_k22 (x) : funI noU (tabT tab) noPhi Psi_k22 Try.f22 b_k22 ann_k22 (.prod t26 (.prod t3 t3)) t4 x = S_ref07_IsSlotOf fcWithin.sh fcIsMake.sh x := by kernel_rfl
theorem spec_k22 : FnSpec Try.prog 22 (.prod t26 (.prod t3 t3)) t4 fcIsSlotOf.sh :=
  fn_ok mixOk tabOk noU_ok noPhi_ok Psi_k22_ok Try.func22 b_k22_ok (by kernel_rfl) fun x => M.le_trans (M.le_of_eq (l_k22 x)) (sIsSlotOf x)
noncomputable def b_k102 : Code := Try.f102.body.getD .skip
theorem b_k102_ok : Try.f102.body = some b_k102 := by kernel_rfl
noncomputable def Psi_k102 (k : Nat) : Option KC := if k = 59 then some (.sc ⟨(.prod t3 (.prod t3 t3)), t4, fcWithin.sh, true⟩) else none
theorem Psi_k102_ok : PsiOk Try.prog noU Psi_k102 := by
  intro k c h
  unfold Psi_k102 at h
  split at h
  · cases h; subst_vars; exact ⟨spec_k59, fun _ _ => M.det_det⟩
  cases h
def ann_k102 : Ann := (.seq .leaf (.seq .leaf .leaf))
theorem l_k102 (x) : funI noU (tabT tab) noPhi Psi_k102 Try.f102 b_k102 ann_k102 t28 t4 x = S_ref07_isLength fcWithin.sh x := by kernel_rfl
theorem spec_k102 : FnSpec Try.prog 102 t28 t4 fcIsLength.sh :=
  fn_ok mixOk tabOk noU_ok noPhi_ok Psi_k102_ok Try.func102 b_k102_ok (by kernel_rfl) fun x => M.le_trans (M.le_of_eq (l_k102 x)) (sIsLength x)
noncomputable def b_k45 : Code := Try.f45.body.getD .skip
theorem b_k45_ok : Try.f45.body = some b_k45 := by kernel_rfl
noncomputable def Psi_k45 (k : Nat) : Option KC := none
theorem Psi_k45_ok : PsiOk Try.prog noU Psi_k45 := by
  intro k c h
  unfold Psi_k45 at h
  cases h
def ann_k45 : Ann := (.seq .leaf (.join ⟨[], []⟩ (.seq .leaf (.block (.loop ⟨[(0, .val t36), (3, .val t3)], []⟩ (.seq (.seq .leaf (.cond .leaf .leaf)) (.seq (.block (.seq .leaf (.cond (.seq .leaf .leaf) .leaf))) .leaf))))) (.seq .leaf .leaf)))
theorem l_k45 (x) : funI noU (tabT tab) noPhi Psi_k45 Try.f45 b_k45 ann_k45 t36 t4 x = S_ref07_Ascending  x := by kernel_rfl
theorem spec_k45 : FnSpec Try.prog 45 t36 t4 fcAscending.sh :=
  fn_ok mixOk tabOk noU_ok noPhi_ok Psi_k45_ok Try.func45 b_k45_ok (by kernel_rfl) fun x => M.le_trans (M.le_of_eq (l_k45 x)) (sAscending x)
noncomputable def b_k103 : Code := Try.f103.body.getD .skip
theorem b_k103_ok : Try.f103.body = some b_k103 := by kernel_rfl
noncomputable def Psi_k103 (k : Nat) : Option KC := if k = 45 then some (.sc ⟨t36, t4, fcAscending.sh, true⟩) else if k = 59 then some (.sc ⟨(.prod t3 (.prod t3 t3)), t4, fcWithin.sh, true⟩) else if k = 102 then some (.sc ⟨t28, t4, fcIsLength.sh, true⟩) else none
theorem Psi_k103_ok : PsiOk Try.prog noU Psi_k103 := by
  intro k c h
  unfold Psi_k103 at h
  split at h
  · cases h; subst_vars; exact ⟨spec_k45, fun _ _ => M.det_det⟩
  split at h
  · cases h; subst_vars; exact ⟨spec_k59, fun _ _ => M.det_det⟩
  split at h
  · cases h; subst_vars; exact ⟨spec_k102, fun _ _ => M.det_det⟩
  cases h
def ann_k103 : Ann := (.seq .leaf (.join ⟨[(1, .loc 1 0)], [(1, .whole t95)]⟩ (.seq .leaf (.block (.loop ⟨[(1, .loc 1 0), (3, .val t3)], [(1, .whole t95)]⟩ (.seq (.seq .leaf (.cond .leaf .leaf)) (.seq (.block (.seq .leaf (.cond (.seq .leaf .leaf) .leaf))) .leaf))))) (.seq .leaf .leaf)))
theorem l_k103 (x) : funI noU (tabT tab) noPhi Psi_k103 Try.f103 b_k103 ann_k103 t95 t4 x = S_ref07_isSlot fcAscending.sh fcWithin.sh fcIsLength.sh x := by kernel_rfl
theorem spec_k103 : FnSpec Try.prog 103 t95 t4 fcIsSlot.sh :=
  fn_ok mixOk tabOk noU_ok noPhi_ok Psi_k103_ok Try.func103 b_k103_ok (by kernel_rfl) fun x => M.le_trans (M.le_of_eq (l_k103 x)) (sIsSlot x)
noncomputable def b_k64 : Code := Try.f64.body.getD .skip
theorem b_k64_ok : Try.f64.body = some b_k64 := by kernel_rfl
noncomputable def Psi_k64 (k : Nat) : Option KC := if k = 20 then some (.sc ⟨(.prod t26 t3), t4, fcIsSpare.sh, true⟩) else if k = 22 then some (.sc ⟨(.prod t26 (.prod t3 t3)), t4, fcIsSlotOf.sh, true⟩) else if k = 59 then some (.sc ⟨(.prod t3 (.prod t3 t3)), t4, fcWithin.sh, true⟩) else if k = 102 then some (.sc ⟨t28, t4, fcIsLength.sh, true⟩) else if k = 103 then some (.sc ⟨t95, t4, fcIsSlot.sh, true⟩) else none
theorem Psi_k64_ok : PsiOk Try.prog noU Psi_k64 := by
  intro k c h
  unfold Psi_k64 at h
  split at h
  · cases h; subst_vars; exact ⟨spec_k20, fun _ _ => M.det_det⟩
  split at h
  · cases h; subst_vars; exact ⟨spec_k22, fun _ _ => M.det_det⟩
  split at h
  · cases h; subst_vars; exact ⟨spec_k59, fun _ _ => M.det_det⟩
  split at h
  · cases h; subst_vars; exact ⟨spec_k102, fun _ _ => M.det_det⟩
  split at h
  · cases h; subst_vars; exact ⟨spec_k103, fun _ _ => M.det_det⟩
  cases h
def ann_k64 : Ann := (.seq .leaf (.seq (.seq .leaf (.cond (.seq .leaf .leaf) .leaf)) (.join ⟨[(1, .loc 1 0)], [(1, .whole t26)]⟩ (.seq .leaf (.block (.loop ⟨[(1, .loc 1 0), (3, .val t3)], [(1, .whole t26)]⟩ (.seq (.seq .leaf (.cond .leaf .leaf)) (.seq (.block (.seq .leaf (.seq .leaf (.cond (.seq .leaf .leaf) .leaf)))) .leaf))))) (.join ⟨[(1, .loc 1 0)], [(1, .whole t26)]⟩ (.seq .leaf (.block (.loop ⟨[(1, .loc 1 0), (5, .val t3)], [(1, .whole t26)]⟩ (.seq (.seq .leaf (.cond .leaf .leaf)) (.join ⟨[(1, .loc 1 0), (5, .val t3)], [(1, .whole t26)]⟩ (.block (.seq (.seq .leaf (.cond (.seq .leaf .leaf) .leaf)) (.seq .leaf (.block (.loop ⟨[(1, .loc 1 0), (5, .val t3), (6, .val t3)], [(1, .whole t26)]⟩ (.seq (.seq .leaf (.cond .leaf .leaf)) (.seq (.block (.seq .leaf (.cond (.seq .leaf .leaf) .leaf))) .leaf))))))) .leaf))))) (.join ⟨[], []⟩ (.seq .leaf (.block (.loop ⟨[(1, .loc 1 0), (7, .val t3)], [(1, .whole t26)]⟩ (.seq (.seq .leaf (.cond .leaf .leaf)) (.seq (.block (.seq .leaf (.seq .leaf (.cond (.seq .leaf .leaf) .leaf)))) .leaf))))) (.seq .leaf .leaf))))))
theorem l_k64 (x) : funI noU (tabT tab) noPhi Psi_k64 Try.f64 b_k64 ann_k64 t26 t4 x = S_ref07_isWorkshop fcIsSpare.sh fcIsSlotOf.sh fcWithin.sh fcIsLength.sh fcIsSlot.sh x := by kernel_rfl
theorem spec_k64 : FnSpec Try.prog 64 t26 t4 fcIsWorkshop.sh :=
  fn_ok mixOk tabOk noU_ok noPhi_ok Psi_k64_ok Try.func64 b_k64_ok (by kernel_rfl) fun x => M.le_trans (M.le_of_eq (l_k64 x)) (sIsWorkshop x)
noncomputable def b_k26 : Code := Try.f26.body.getD .skip
theorem b_k26_ok : Try.f26.body = some b_k26 := by kernel_rfl
noncomputable def Psi_k26 (k : Nat) : Option KC := if k = 64 then some (.sc ⟨t26, t4, fcIsWorkshop.sh, true⟩) else none
theorem Psi_k26_ok : PsiOk Try.prog noU Psi_k26 := by
  intro k c h
  unfold Psi_k26 at h
  split at h
  · cases h; subst_vars; exact ⟨spec_k64, fun _ _ => M.det_det⟩
  cases h
def ann_k26 : Ann := (.seq .leaf (.seq (.seq .leaf (.cond (.seq .leaf .leaf) .leaf)) (.join ⟨[], []⟩ (.seq .leaf (.block (.loop ⟨[(1, .loc 1 0), (3, .val t3)], [(1, .whole t26)]⟩ (.seq (.seq .leaf (.cond .leaf .leaf)) (.join ⟨[(1, .loc 1 0), (3, .val t3)], [(1, .whole t26)]⟩ (.block (.seq .leaf (.block (.loop ⟨[(1, .loc 1 0), (3, .val t3), (4, .val t3)], [(1, .whole t26)]⟩ (.seq (.seq .leaf (.cond .leaf .leaf)) (.seq (.block (.seq .leaf (.seq .leaf (.cond (.seq .leaf .leaf) .leaf)))) .leaf)))))) .leaf))))) (.seq .leaf .leaf))))
theorem l_k26 (x) : funI noU (tabT tab) noPhi Psi_k26 Try.f26 b_k26 ann_k26 t26 t33 x = S_ref07_Check fcIsWorkshop.sh x := by kernel_rfl
theorem spec_k26 : FnSpec Try.prog 26 t26 t33 fcCheck.sh :=
  fn_ok mixOk tabOk noU_ok noPhi_ok Psi_k26_ok Try.func26 b_k26_ok (by kernel_rfl) fun x => M.le_trans (M.le_of_eq (l_k26 x)) (sCheck x)
noncomputable def b_k18 : Code := Try.f18.body.getD .skip
theorem b_k18_ok : Try.f18.body = some b_k18 := by kernel_rfl
noncomputable def Psi_k18 (k : Nat) : Option KC := none
theorem Psi_k18_ok : PsiOk Try.prog noU Psi_k18 := by
  intro k c h
  unfold Psi_k18 at h
  cases h
def ann_k18 : Ann := (.seq .leaf (.join ⟨[], []⟩ (.seq .leaf (.block (.loop ⟨[(0, .val t36), (1, .val t3), (5, .val t3)], []⟩ (.seq (.seq .leaf (.cond .leaf .leaf)) (.seq (.block (.seq .leaf (.cond (.seq .leaf .leaf) .leaf))) .leaf))))) (.seq .leaf .leaf)))
theorem l_k18 (x) : funI noU (tabT tab) noPhi Psi_k18 Try.f18 b_k18 ann_k18 (.prod t36 t3) t4 x = S_ref07_In  x := by kernel_rfl
theorem spec_k18 : FnSpec Try.prog 18 (.prod t36 t3) t4 fcIn.sh :=
  fn_ok mixOk tabOk noU_ok noPhi_ok Psi_k18_ok Try.func18 b_k18_ok (by kernel_rfl) fun x => M.le_trans (M.le_of_eq (l_k18 x)) (sIn x)
noncomputable def b_k42 : Code := Try.f42.body.getD .skip
theorem b_k42_ok : Try.f42.body = some b_k42 := by kernel_rfl
noncomputable def Psi_k42 (k : Nat) : Option KC := if k = 18 then some (.sc ⟨(.prod t36 t3), t4, fcIn.sh, true⟩) else if k = 59 then some (.sc ⟨(.prod t3 (.prod t3 t3)), t4, fcWithin.sh, true⟩) else none
theorem Psi_k42_ok : PsiOk Try.prog noU Psi_k42 := by
  intro k c h
  unfold Psi_k42 at h
  split at h
  · cases h; subst_vars; exact ⟨spec_k18, fun _ _ => M.det_det⟩
  split at h
  · cases h; subst_vars; exact ⟨spec_k59, fun _ _ => M.det_det⟩
  cases h
def ann_k42 : Ann := (.seq .leaf (.seq .leaf (.seq .leaf .leaf)))
theorem l_k42 (x) : funI noU (tabT tab) noPhi Psi_k42 Try.f42 b_k42 ann_k42 (.prod t26 (.prod t3 (.prod t3 (.prod t3 t3)))) t4 x = S_ref07_FitsAt fcIn.sh fcWithin.sh x := by kernel_rfl
theorem spec_k42 : FnSpec Try.prog 42 (.prod t26 (.prod t3 (.prod t3 (.prod t3 t3)))) t4 fcFitsAt.sh :=
  fn_ok mixOk tabOk noU_ok noPhi_ok Psi_k42_ok Try.func42 b_k42_ok (by kernel_rfl) fun x => M.le_trans (M.le_of_eq (l_k42 x)) (sFitsAt x)
noncomputable def b_k40 : Code := Try.f40.body.getD .skip
theorem b_k40_ok : Try.f40.body = some b_k40 := by kernel_rfl
noncomputable def Psi_k40 (k : Nat) : Option KC := if k = 42 then some (.sc ⟨(.prod t26 (.prod t3 (.prod t3 (.prod t3 t3)))), t4, fcFitsAt.sh, true⟩) else if k = 59 then some (.sc ⟨(.prod t3 (.prod t3 t3)), t4, fcWithin.sh, true⟩) else none
theorem Psi_k40_ok : PsiOk Try.prog noU Psi_k40 := by
  intro k c h
  unfold Psi_k40 at h
  split at h
  · cases h; subst_vars; exact ⟨spec_k42, fun _ _ => M.det_det⟩
  split at h
  · cases h; subst_vars; exact ⟨spec_k59, fun _ _ => M.det_det⟩
  cases h
def ann_k40 : Ann := (.seq .leaf (.join ⟨[(1, .val t3), (2, .val t3), (3, .loc 3 0)], [(3, .whole t26)]⟩ (.seq .leaf (.block (.loop ⟨[(1, .val t3), (2, .val t3), (3, .loc 3 0), (7, .val t3)], [(3, .whole t26)]⟩ (.seq (.seq .leaf (.cond .leaf .leaf)) (.seq (.block (.seq .leaf (.seq .leaf (.cond (.seq .leaf .leaf) .leaf)))) .leaf))))) (.seq .leaf .leaf)))
theorem l_k40 (x) : funI noU (tabT tab) noPhi Psi_k40 Try.f40 b_k40 ann_k40 (.prod t26 (.prod t3 t3)) t4 x = S_ref07_CanBe fcFitsAt.sh fcWithin.sh x := by kernel_rfl
theorem spec_k40 : FnSpec Try.prog 40 (.prod t26 (.prod t3 t3)) t4 fcCanBe.sh :=
  fn_ok mixOk tabOk noU_ok noPhi_ok Psi_k40_ok Try.func40 b_k40_ok (by kernel_rfl) fun x => M.le_trans (M.le_of_eq (l_k40 x)) (sCanBe x)
noncomputable def b_k68 : Code := Try.f68.body.getD .skip
theorem b_k68_ok : Try.f68.body = some b_k68 := by kernel_rfl
noncomputable def Psi_k68 (k : Nat) : Option KC := if k = 40 then some (.sc ⟨(.prod t26 (.prod t3 t3)), t4, fcCanBe.sh, true⟩) else none
theorem Psi_k68_ok : PsiOk Try.prog noU Psi_k68 := by
  intro k c h
  unfold Psi_k68 at h
  split at h
  · cases h; subst_vars; exact ⟨spec_k40, fun _ _ => M.det_det⟩
  cases h
def ann_k68 : Ann := (.seq .leaf (.seq .leaf (.join ⟨[(5, .own 5)], [(5, .arr t3)]⟩ (.seq .leaf (.block (.loop ⟨[(1, .val t3), (2, .loc 2 0), (5, .own 5), (6, .val t3)], [(2, .whole t26), (5, .arr t3)]⟩ (.seq (.seq .leaf (.cond .leaf .leaf)) (.join ⟨[(1, .val t3), (2, .loc 2 0), (5, .own 5), (6, .val t3)], [(2, .whole t26), (5, .arr t3)]⟩ (.block (.seq .leaf (.cond .leaf .leaf))) .leaf))))) (.seq .leaf .leaf))))
theorem l_k68 (x) : funI noU (tabT tab) noPhi Psi_k68 Try.f68 b_k68 ann_k68 (.prod t26 t3) t36 x = S_ref07_all fcCanBe.sh x := by kernel_rfl
theorem spec_k68 : FnSpec Try.prog 68 (.prod t26 t3) t36 fcAll.sh :=
  fn_ok mixOk tabOk noU_ok noPhi_ok Psi_k68_ok Try.func68 b_k68_ok (by kernel_rfl) fun x => M.le_trans (M.le_of_eq (l_k68 x)) (sAll x)
noncomputable def b_k67 : Code := Try.f67.body.getD .skip
theorem b_k67_ok : Try.f67.body = some b_k67 := by kernel_rfl
noncomputable def Psi_k67 (k : Nat) : Option KC := if k = 26 then some (.sc ⟨t26, t33, fcCheck.sh, true⟩) else if k = 68 then some (.sc ⟨(.prod t26 t3), t36, fcAll.sh, true⟩) else none
theorem Psi_k67_ok : PsiOk Try.prog noU Psi_k67 := by
  intro k c h
  unfold Psi_k67 at h
  split at h
  · cases h; subst_vars; exact ⟨spec_k26, fun _ _ => M.det_det⟩
  split at h
  · cases h; subst_vars; exact ⟨spec_k68, fun _ _ => M.det_det⟩
  cases h
def ann_k67 : Ann := (.seq .leaf (.seq (.seq .leaf (.seq .leaf (.cond (.seq .leaf .leaf) .leaf))) (.seq (.seq .leaf (.cond (.seq .leaf .leaf) .leaf)) (.join ⟨[], []⟩ (.seq .leaf (.block (.loop ⟨[(2, .loc 2 0), (6, .val t3)], [(2, .whole t26)]⟩ (.seq (.seq .leaf (.cond .leaf .leaf)) (.seq (.block (.seq .leaf (.cond (.seq .leaf .leaf) .leaf))) .leaf))))) (.seq .leaf .leaf)))))
theorem l_k67 (x) : funI noU (tabT tab) noPhi Psi_k67 Try.f67 b_k67 ann_k67 (.prod t26 t4) t33 x = S_ref07_known fcCheck.sh fcAll.sh x := by kernel_rfl
theorem spec_k67 : FnSpec Try.prog 67 (.prod t26 t4) t33 fcKnown0.sh :=
  fn_ok mixOk tabOk noU_ok noPhi_ok Psi_k67_ok Try.func67 b_k67_ok (by kernel_rfl) fun x => M.le_trans (M.le_of_eq (l_k67 x)) (sKnown0 x)
noncomputable def b_k53 : Code := Try.f53.body.getD .skip
theorem b_k53_ok : Try.f53.body = some b_k53 := by kernel_rfl
noncomputable def Psi_k53 (k : Nat) : Option KC := if k = 67 then some (.sc ⟨(.prod t26 t4), t33, fcKnown0.sh, true⟩) else none
theorem Psi_k53_ok : PsiOk Try.prog noU Psi_k53 := by
  intro k c h
  unfold Psi_k53 at h
  split at h
  · cases h; subst_vars; exact ⟨spec_k67, fun _ _ => M.det_det⟩
  cases h
def ann_k53 : Ann := (.seq .leaf (.seq .leaf .leaf))
theorem l_k53 (x) : funI noU (tabT tab) noPhi Psi_k53 Try.f53 b_k53 ann_k53 t26 t33 x = S_ref07_Known fcKnown0.sh x := by kernel_rfl
theorem spec_k53 : FnSpec Try.prog 53 t26 t33 fcKnown.sh :=
  fn_ok mixOk tabOk noU_ok noPhi_ok Psi_k53_ok Try.func53 b_k53_ok (by kernel_rfl) fun x => M.le_trans (M.le_of_eq (l_k53 x)) (sKnown x)
noncomputable def b_kcopy : Code := Try.f17.body.getD .skip
theorem b_kcopy_ok : Try.f17.body = some b_kcopy := by kernel_rfl
noncomputable def Psi_kcopy (k : Nat) : Option KC := none
theorem Psi_kcopy_ok : PsiOk Try.prog noU Psi_kcopy := by
  intro k c h
  unfold Psi_kcopy at h
  cases h
noncomputable def ioc_copy : IOC := ⟨⟨[(0, .val t26)], []⟩, ⟨[(0, .own 8), (1, .own 59), (2, .val t3), (3, .own 12)], [(8, .arr t30), (12, .arr t54), (59, .arr t74)]⟩, [some 4], 1, shCopyIO⟩
def ann_kcopy : Ann := (.seq .leaf (.seq .leaf (.seq .leaf (.seq .leaf (.join ⟨[(2, .loc 2 0), (3, .loc 3 0)], [(2, .cells t26 [.nils, .nils, .val t3, .nils]), (3, .cells t26 [.own 8, .own 59, .val t3, .own 12]), (8, .arr t30), (12, .arr t54), (59, .arr t74)]⟩ (.seq .leaf (.block (.loop ⟨[(1, .loc 1 0), (2, .loc 2 0), (3, .loc 3 0), (4, .val t3)], [(1, .whole t26), (2, .cells t26 [.nils, .nils, .val t3, .nils]), (3, .cells t26 [.own 8, .own 59, .val t3, .own 12]), (8, .arr t30), (12, .arr t54), (59, .arr t74)]⟩ (.seq (.seq .leaf (.cond .leaf .leaf)) (.join ⟨[(1, .loc 1 0), (2, .loc 2 0), (3, .loc 3 0), (4, .val t3)], [(1, .whole t26), (2, .cells t26 [.nils, .nils, .val t3, .nils]), (3, .cells t26 [.own 8, .own 59, .val t3, .own 12]), (8, .arr t30), (12, .arr t54), (59, .arr t74)]⟩ (.block (.seq .leaf (.join ⟨[(1, .loc 1 0), (2, .loc 2 0), (3, .loc 3 0), (4, .val t3), (5, .loc 5 0)], [(1, .whole t26), (2, .cells t26 [.nils, .nils, .val t3, .nils]), (3, .cells t26 [.own 8, .own 59, .val t3, .own 12]), (5, .cells t74 [.own 26]), (8, .arr t30), (12, .arr t54), (26, .arr t95), (59, .arr t74)]⟩ (.seq .leaf (.block (.loop ⟨[(1, .loc 1 0), (2, .loc 2 0), (3, .loc 3 0), (4, .val t3), (5, .loc 5 0), (6, .val t3)], [(1, .whole t26), (2, .cells t26 [.nils, .nils, .val t3, .nils]), (3, .cells t26 [.own 8, .own 59, .val t3, .own 12]), (5, .cells t74 [.own 26]), (8, .arr t30), (12, .arr t54), (26, .arr t95), (59, .arr t74)]⟩ (.seq (.seq .leaf (.cond .leaf .leaf)) (.seq (.block .leaf) .leaf))))) .leaf))) .leaf))))) (.seq .leaf .leaf))))))
theorem l_kcopy (x) : funIO noU (tabT tab) noPhi Psi_kcopy Try.f17 b_kcopy ann_kcopy ⟨[(0, .val t26)], []⟩ ⟨[(0, .own 8), (1, .own 59), (2, .val t3), (3, .own 12)], [(8, .arr t30), (12, .arr t54), (59, .arr t74)]⟩ [some 4] x = S_ref07_CopyIO  x := by kernel_rfl
theorem io_copy : IoSpec Try.prog noU 17 ioc_copy :=
  fnIO_ok mixOk tabOk noPhi_ok Psi_kcopy_ok Try.func17 b_kcopy_ok (by kernel_rfl) fun x => M.le_trans (M.le_of_eq (l_kcopy x)) (sCopyIO x)
end Go.Fer.Sk
