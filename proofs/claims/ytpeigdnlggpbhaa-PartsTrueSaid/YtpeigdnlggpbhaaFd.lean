/- Part 4 of the frame of the proof: shallow programs of Go functions, and what they compute. No condition. -/
import Derived.Test.YtpeigdnlggpbhaaFc
namespace Go.Fer
open M (Step)
set_option linter.unusedVariables false
noncomputable def S_parts_Fewest (c_parts_fewest : List (Int × Int × Int × Int) × List (List (Int × List Int × Int × Int)) × Int × List (Int × Int × Int × Int) → M (List Int × Int)) (c_math_bits_OnesCount : Int → M Int) (x : List (Int × Int × Int × Int) × List (List (Int × List Int × Int × Int)) × Int × List (Int × Int × Int × Int)) : M (Int × Int) :=
  M.bind (c_parts_fewest x) fun y => if decide (y.2 ≠ 0) = true then M.pure (0, y.2) else M.req ((0 : Int) ≤ 0 ∧ 0 < Int.ofNat (List.length y.1))
  (M.bind (c_math_bits_OnesCount (List.getD y.1 (Int.toNat 0) 0)) fun y => M.pure (y, 0))
noncomputable def S_parts_Needed (c_parts_fewest : List (Int × Int × Int × Int) × List (List (Int × List Int × Int × Int)) × Int × List (Int × Int × Int × Int) → M (List Int × Int)) (c_parts_list : Int → M (List Int)) (x : List (Int × Int × Int × Int) × List (List (Int × List Int × Int × Int)) × Int × List (Int × Int × Int × Int)) : M (List Int × Int) :=
  M.bind (c_parts_fewest x) fun y => if decide (y.2 ≠ 0) = true then M.pure ([], y.2) else M.req ((0 : Int) ≤ 0 ∧ 0 < Int.ofNat (List.length y.1))
  (M.bind (M.loop (fun (σ : Int × List Int × Int × Int × Unit) => if decide (σ.2.2.2.1 < σ.2.2.1) = true then M.req (0 ≤ σ.2.2.2.1 ∧ σ.2.2.2.1 <
  Int.ofNat (List.length σ.2.1)) (M.pure (Step.next (iand .u64 σ.1 (List.getD σ.2.1 (Int.toNat σ.2.2.2.1) 0), σ.2.1, σ.2.2.1, IntKind.wrap .i64
  (Add.add σ.2.2.2.1 1), ()))) else M.bind (M.pure (Step.next (σ.1, ()))) fun r => M.pure (Step.done r)) (List.getD y.1 (Int.toNat 0) 0, y.1, Int.ofNat
  (List.length y.1), 0, ())) (Step.go fun (σ : Int × Unit) => M.bind (c_parts_list σ.1) fun y => M.pure (y, 0)))
noncomputable def S_parts_Most (c_parts_begin : Wsh × List Int × List (Int × Int) → M (Option (List (List Int) × List Int × List Int) × Int)) (c_parts_task_holders : Option (List (List Int) × List Int × List Int) × Int → M (List Int)) (x : Wsh × List Int × List (Int × Int)) : M (Int × Int) :=
  M.bind (c_parts_begin x) fun y => if decide (y.2 ≠ 0) = true then M.pure (0, y.2) else M.bind (c_parts_task_holders (y.1, -1)) fun y => M.pure
  (IntKind.wrap .i64 (Int.ofNat (List.length x.2.2) - Int.ofNat (List.length y)), 0)
noncomputable def S_parts_Check (c_parts_isWorkshop : List (Int × Int × Int × Int) × List (List (Int × List Int × Int × Int)) × Int × List (Int × Int × Int × Int) → M Bool) (x : List (Int × Int × Int × Int) × List (List (Int × List Int × Int × Int)) × Int × List (Int × Int × Int × Int)) : M Int :=
  M.bind (c_parts_isWorkshop x) fun y => if (!y) = true then M.pure 70 else M.bind (M.loop (fun (σ : List (Int × Int × Int × Int) × Int × Int × List
  ((Int × Int × Int) × Int) × Unit) => if decide (σ.2.2.1 < σ.2.1) = true then M.req (0 ≤ σ.2.2.1 ∧ σ.2.2.1 < Int.ofNat (List.length σ.1)) (if
  (Option.isSome (Option.map (fun x => x.2) (List.find? (fun p => decide ((List.getD σ.1 (Int.toNat σ.2.2.1) (0, 0, 0, 0)).1 = p.1.1) && (decide
  ((List.getD σ.1 (Int.toNat σ.2.2.1) (0, 0, 0, 0)).2.1 = p.1.2.1) && decide ((List.getD σ.1 (Int.toNat σ.2.2.1) (0, 0, 0, 0)).2.2.1 = p.1.2.2)))
  σ.2.2.2.1)) && decide (Option.getD (Option.map (fun x => x.2) (List.find? (fun p => decide ((List.getD σ.1 (Int.toNat σ.2.2.1) (0, 0, 0, 0)).1 =
  p.1.1) && (decide ((List.getD σ.1 (Int.toNat σ.2.2.1) (0, 0, 0, 0)).2.1 = p.1.2.1) && decide ((List.getD σ.1 (Int.toNat σ.2.2.1) (0, 0, 0, 0)).2.2.1
  = p.1.2.2))) σ.2.2.2.1)) 0 ≠ (List.getD σ.1 (Int.toNat σ.2.2.1) (0, 0, 0, 0)).2.2.2)) = true then M.bind (M.bind (M.pure 71) fun r => M.pure
  (Step.done r)) fun r => M.pure (Step.done r) else M.pure (Step.next (σ.1, σ.2.1, IntKind.wrap .i64 (Add.add σ.2.2.1 1), msetT σ.2.2.2.1 ((List.getD
  σ.1 (Int.toNat σ.2.2.1) (0, 0, 0, 0)).1, (List.getD σ.1 (Int.toNat σ.2.2.1) (0, 0, 0, 0)).2.1, (List.getD σ.1 (Int.toNat σ.2.2.1) (0, 0, 0,
  0)).2.2.1) (List.getD σ.1 (Int.toNat σ.2.2.1) (0, 0, 0, 0)).2.2.2, ()))) else M.bind (M.pure (Step.next ())) fun r => M.pure (Step.done r)) (x.2.2.2,
  Int.ofNat (List.length x.2.2.2), 0, [], ())) (Step.go fun (σ : Unit) => M.pure 0)
noncomputable def S_parts_Length (c_parts_open : Wsh × Bool → M (Option Shp × Int)) (c_parts_isSpare : Wsh × Int → M Bool) (x : Wsh × Int) : M ((Int × Int) × Int) :=
  M.req (c_parts_isSpare x).safe (M.req (c_parts_open (x.1, M.val (c_parts_isSpare x) false)).safe (if decide ((M.val (c_parts_open (x.1, M.val
  (c_parts_isSpare x) false)) (none, 0)).2 ≠ 0) = true then M.pure ((0, 0), (M.val (c_parts_open (x.1, M.val (c_parts_isSpare x) false)) (none, 0)).2)
  else M.req (Option.isSome (M.val (c_parts_open (x.1, M.val (c_parts_isSpare x) false)) (none, 0)).1 = true) (M.req (0 ≤ x.2 ∧ x.2 < Int.ofNat
  (List.length (Option.getD (M.val (c_parts_open (x.1, M.val (c_parts_isSpare x) false)) (none, 0)).1 (([], [], 0, []), [])).2)) (M.req ((0 : Int) ≤ 0
  ∧ 0 < Int.ofNat (List.length (List.getD (Option.getD (M.val (c_parts_open (x.1, M.val (c_parts_isSpare x) false)) (none, 0)).1 (([], [], 0, []),
  [])).2 (Int.toNat x.2) []))) (M.req (0 ≤ IntKind.wrap .i64 (Int.ofNat (List.length (List.getD (Option.getD (M.val (c_parts_open (x.1, M.val
  (c_parts_isSpare x) false)) (none, 0)).1 (([], [], 0, []), [])).2 (Int.toNat x.2) [])) - 1) ∧ IntKind.wrap .i64 (Int.ofNat (List.length (List.getD
  (Option.getD (M.val (c_parts_open (x.1, M.val (c_parts_isSpare x) false)) (none, 0)).1 (([], [], 0, []), [])).2 (Int.toNat x.2) [])) - 1) < Int.ofNat
  (List.length (List.getD (Option.getD (M.val (c_parts_open (x.1, M.val (c_parts_isSpare x) false)) (none, 0)).1 (([], [], 0, []), [])).2 (Int.toNat
  x.2) []))) (M.pure ((List.getD (List.getD (Option.getD (M.val (c_parts_open (x.1, M.val (c_parts_isSpare x) false)) (none, 0)).1 (([], [], 0, []),
  [])).2 (Int.toNat x.2) []) (Int.toNat 0) 0, List.getD (List.getD (Option.getD (M.val (c_parts_open (x.1, M.val (c_parts_isSpare x) false)) (none,
  0)).1 (([], [], 0, []), [])).2 (Int.toNat x.2) []) (Int.toNat (IntKind.wrap .i64 (Int.ofNat (List.length (List.getD (Option.getD (M.val (c_parts_open
  (x.1, M.val (c_parts_isSpare x) false)) (none, 0)).1 (([], [], 0, []), [])).2 (Int.toNat x.2) [])) - 1))) 0), 0)))))))
noncomputable def S_parts_Fits (c_parts_open : Wsh × Bool → M (Option Shp × Int)) (c_parts_isSpare : Wsh × Int → M Bool) (c_parts_isSlot : Wsh × Int × Int → M Bool) (c_parts_shop_fits : Option Shp × Int × Int × Int → M Int) (x : Wsh × Int × Int × Int) : M (Int × Int) :=
  M.req (c_parts_isSpare (x.1, x.2.1)).safe (M.req (M.val (c_parts_isSpare (x.1, x.2.1)) false = true → (M.val (c_parts_isSpare (x.1, x.2.1)) false =
  true ∧ M.val (c_parts_isSpare (x.1, x.2.1)) false = true ∧ M.val (c_parts_isSpare (x.1, x.2.1)) false = true ∧ True) ∧ (c_parts_isSlot (x.1,
  x.2.2)).safe ∧ True) (M.req (True ∧ (M.val (c_parts_isSpare (x.1, x.2.1)) false = true → M.val (c_parts_isSpare (x.1, x.2.1)) false = true)) (M.req
  (c_parts_open (x.1, M.val (c_parts_isSpare (x.1, x.2.1)) false && M.val (c_parts_isSlot (x.1, x.2.2)) false)).safe (if decide ((M.val (c_parts_open
  (x.1, M.val (c_parts_isSpare (x.1, x.2.1)) false && M.val (c_parts_isSlot (x.1, x.2.2)) false)) (none, 0)).2 ≠ 0) = true then M.pure (0, (M.val
  (c_parts_open (x.1, M.val (c_parts_isSpare (x.1, x.2.1)) false && M.val (c_parts_isSlot (x.1, x.2.2)) false)) (none, 0)).2) else M.bind
  (c_parts_shop_fits ((M.val (c_parts_open (x.1, M.val (c_parts_isSpare (x.1, x.2.1)) false && M.val (c_parts_isSlot (x.1, x.2.2)) false)) (none,
  0)).1, x.2)) fun y => M.pure (y, 0)))))
noncomputable def S_parts_Keep (c_parts_fewest : List (Int × Int × Int × Int) × List (List (Int × List Int × Int × Int)) × Int × List (Int × Int × Int × Int) → M (List Int × Int)) (c_parts_list : Int → M (List Int)) (x : List (Int × Int × Int × Int) × List (List (Int × List Int × Int × Int)) × Int × List (Int × Int × Int × Int)) : M (List Int × Int) :=
  M.bind (c_parts_fewest x) fun y => if decide (y.2 ≠ 0) = true then M.pure ([], y.2) else M.req ((0 : Int) ≤ 0 ∧ 0 < Int.ofNat (List.length y.1))
  (M.bind (c_parts_list (List.getD y.1 (Int.toNat 0) 0)) fun y => M.pure (y, 0))
noncomputable def S_parts_Mends (c_parts_open : Wsh × Bool → M (Option Shp × Int)) (c_parts_ascending : List Int → M Bool) (c_parts_all_int : List Int × (Int → M Bool) → M Bool) (c_parts_within : Int × Int × Int → M Bool) (c_parts_shop_mends : Option Shp × List Int × Int → M Int) (c_parts_Mends_c1 : Int × Option Wsh → M Bool) (x : Wsh × List Int × Int) : M (Int × Int) :=
  M.bind (c_parts_ascending x.2.1) fun y => M.bind (gdo y (c_parts_all_int (x.2.1, fun x_1 => c_parts_Mends_c1 (x_1, some x.1))) false) fun y_1 =>
  M.bind (gdo (y && y_1) (c_parts_within (x.2.2, 0, IntKind.wrap .i64 (Int.ofNat (List.length x.1.2.1) - 1))) false) fun y_2 => M.bind (c_parts_open
  (x.1, y && y_1 && y_2)) fun y => if decide (y.2 ≠ 0) = true then M.pure (0, y.2) else M.bind (c_parts_shop_mends (y.1, x.2)) fun y => M.pure (y, 0)
noncomputable def S_parts_Work (c_parts_begin : Wsh × List Int × List (Int × Int) → M (Option (List (List Int) × List Int × List Int) × Int)) (x : Wsh × List Int × List (Int × Int)) : M (List Int × Int) :=
  M.bind (c_parts_begin x) fun y => if decide (y.2 ≠ 0) = true then M.pure ([], y.2) else M.req (Option.isSome y.1 = true) (M.pure ((Option.getD y.1
  ([], [], [])).2.2, 0))
noncomputable def S_parts_Short (c_parts_begin : Wsh × List Int × List (Int × Int) → M (Option (List (List Int) × List Int × List Int) × Int)) (c_parts_task_holdersV : Option (List (List Int) × List Int × List Int) × Int × Unit → M (List Int × Unit)) (x : Wsh × List Int × List (Int × Int)) : M (List Int × Int) :=
  M.bind (c_parts_begin x) fun y => if decide (y.2 ≠ 0) = true then M.pure ([], y.2) else M.bind (c_parts_task_holdersV (y.1, -1, ())) fun y_1 =>
  M.bind (M.loop (fun (σ : List (Int × Int) × Option (List (List Int) × List Int × List Int) × (Nat × Nat) × List (Int × Int) × List Int × Unit) => if
  decide (Int.ofNat (σ.2.2.1.2 - σ.2.2.1.1) > 0) = true then M.req ((0 : Int) ≤ 0 ∧ 0 < Int.ofNat (σ.2.2.1.2 - σ.2.2.1.1)) (M.req ((0 : Int) ≤ 1 ∧ 1 ≤
  Int.ofNat (σ.2.2.1.2 - σ.2.2.1.1) ∧ Int.ofNat (σ.2.2.1.2 - σ.2.2.1.1) ≤ Int.ofNat (σ.2.2.1.2 - σ.2.2.1.1)) (if decide (Option.getD (Option.map (fun x
  => x.2) (List.find? (fun p => decide (List.getD σ.2.2.2.2.1 (Add.add σ.2.2.1.1 (Int.toNat 0)) 0 = p.1)) (msetI σ.2.2.2.1 (List.getD σ.2.2.2.2.1
  (Add.add σ.2.2.1.1 (Int.toNat 0)) 0) (IntKind.wrap .i64 (Add.add (Option.getD (Option.map (fun x => x.2) (List.find? (fun p => decide (List.getD
  σ.2.2.2.2.1 (Add.add σ.2.2.1.1 (Int.toNat 0)) 0 = p.1)) σ.2.2.2.1)) 0) 1))))) (0 : Int) > 1) = true then M.pure (Step.next (σ.1, σ.2.1, (Add.add
  σ.2.2.1.1 (Int.toNat 1), Add.add σ.2.2.1.1 (Int.toNat (Int.ofNat (σ.2.2.1.2 - σ.2.2.1.1)))), msetI σ.2.2.2.1 (List.getD σ.2.2.2.2.1 (Add.add
  σ.2.2.1.1 (Int.toNat 0)) 0) (IntKind.wrap .i64 (Add.add (Option.getD (Option.map (fun x => x.2) (List.find? (fun p => decide (List.getD σ.2.2.2.2.1
  (Add.add σ.2.2.1.1 (Int.toNat 0)) 0 = p.1)) σ.2.2.2.1)) 0) 1)), σ.2.2.2.2.1, ())) else M.req (Option.isSome σ.2.1 = true) (M.req (0 ≤ List.getD
  σ.2.2.2.2.1 (Add.add σ.2.2.1.1 (Int.toNat 0)) 0 ∧ List.getD σ.2.2.2.2.1 (Add.add σ.2.2.1.1 (Int.toNat 0)) 0 < Int.ofNat (List.length (Option.getD
  σ.2.1 ([], [], [])).1)) (M.loop (fun (σ : List (Int × Int) × Option (List (List Int) × List Int × List Int) × (Nat × Nat) × List Int × Int × Int ×
  List (Int × Int) × List Int × Unit) => if decide (σ.2.2.2.2.2.1 < σ.2.2.2.2.1) = true then M.req (0 ≤ σ.2.2.2.2.2.1 ∧ σ.2.2.2.2.2.1 < Int.ofNat
  (List.length σ.2.2.2.1)) (M.bind (c_parts_task_holdersV (σ.2.1, List.getD σ.2.2.2.1 (Int.toNat σ.2.2.2.2.2.1) 0, ())) fun y => M.req (lenLe (Add.add
  (List.length (List.drop σ.2.2.1.1 (List.take σ.2.2.1.2 σ.2.2.2.2.2.2.2.1))) (List.length y.1))) (M.pure (Step.next (σ.1, σ.2.1, (0, List.length
  (List.drop σ.2.2.1.1 (List.take σ.2.2.1.2 σ.2.2.2.2.2.2.2.1) ++ y.1)), σ.2.2.2.1, σ.2.2.2.2.1, IntKind.wrap .i64 (Add.add σ.2.2.2.2.2.1 1),
  σ.2.2.2.2.2.2.1, List.drop σ.2.2.1.1 (List.take σ.2.2.1.2 σ.2.2.2.2.2.2.2.1) ++ y.1, ())))) else M.bind (M.pure (Step.next (σ.1, σ.2.1, σ.2.2.1,
  σ.2.2.2.2.2.2.1, σ.2.2.2.2.2.2.2.1, ()))) fun r => M.pure (Step.done r)) (σ.1, σ.2.1, (Add.add σ.2.2.1.1 (Int.toNat 1), Add.add σ.2.2.1.1 (Int.toNat
  (Int.ofNat (σ.2.2.1.2 - σ.2.2.1.1)))), List.getD (Option.getD σ.2.1 ([], [], [])).1 (Int.toNat (List.getD σ.2.2.2.2.1 (Add.add σ.2.2.1.1 (Int.toNat
  0)) 0)) [], Int.ofNat (List.length (List.getD (Option.getD σ.2.1 ([], [], [])).1 (Int.toNat (List.getD σ.2.2.2.2.1 (Add.add σ.2.2.1.1 (Int.toNat 0))
  0)) [])), 0, msetI σ.2.2.2.1 (List.getD σ.2.2.2.2.1 (Add.add σ.2.2.1.1 (Int.toNat 0)) 0) (IntKind.wrap .i64 (Add.add (Option.getD (Option.map (fun x
  => x.2) (List.find? (fun p => decide (List.getD σ.2.2.2.2.1 (Add.add σ.2.2.1.1 (Int.toNat 0)) 0 = p.1)) σ.2.2.2.1)) 0) 1)), σ.2.2.2.2.1, ()))))) else
  M.bind (M.pure (Step.next (σ.1, σ.2.2.2.1, ()))) fun r => M.pure (Step.done r)) (x.2.2, y.1, (0, List.length y_1.1), [], y_1.1, ())) (Step.go fun (σ
  : List (Int × Int) × List (Int × Int) × Unit) => M.bind (M.loop (fun (σ : Int × Int × List Int × List (Int × Int) × Unit) => if decide (σ.2.1 < σ.1)
  = true then M.bind (if decide (Option.getD (Option.map (fun x => x.2) (List.find? (fun p => decide (σ.2.1 = p.1)) σ.2.2.2.1)) (0 : Int) > 0) = true
  then M.req (lenLe (Add.add (List.length σ.2.2.1) (Add.add 0 1))) (M.pure (Step.next (σ.1, σ.2.1, σ.2.2.1 ++ [σ.2.1], σ.2.2.2.1, ()))) else M.pure
  (Step.next (σ.1, σ.2.1, σ.2.2.1, σ.2.2.2.1, ()))) (Step.go fun (σ : Int × Int × List Int × List (Int × Int) × Unit) => M.pure (Step.next (σ.1,
  IntKind.wrap .i64 (Add.add σ.2.1 1), σ.2.2.1, σ.2.2.2.1, ()))) else M.bind (M.pure (Step.next (σ.2.2.1, ()))) fun r => M.pure (Step.done r))
  (Int.ofNat (List.length σ.1), 0, [], σ.2.1, ())) (Step.go fun (σ : List Int × Unit) => M.pure (σ.1, 0)))
noncomputable def S_parts_fewest (c_math_bits_OnesCount : Int → M Int) (c_parts_open : Wsh × Bool → M (Option Shp × Int)) (itpre_84 : Option Shp → Prop) (itseq_84 : Option Shp → List Int) (x : List (Int × Int × Int × Int) × List (List (Int × List Int × Int × Int)) × Int × List (Int × Int × Int × Int)) : M (List Int × Int) :=
  M.bind (c_parts_open (x, true)) fun y => if decide (y.2 ≠ 0) = true then M.pure ([], y.2) else M.bind (M.req (itpre_84 y.1) (M.bind (rounds (fun (σ :
  List Int × Unit) (y : Int) => M.bind (M.req (decide (Int.ofNat (List.length σ.1) > 0) = true → (decide (Int.ofNat (List.length σ.1) > 0) = true ∧
  True) ∧ (c_math_bits_OnesCount y).safe ∧ True) (M.req (decide (Int.ofNat (List.length σ.1) > 0) = true → (decide (Int.ofNat (List.length σ.1) > 0) =
  true ∧ True) ∧ ((0 : Int) ≤ 0 ∧ 0 < Int.ofNat (List.length σ.1)) ∧ True) (M.req (decide (Int.ofNat (List.length σ.1) > 0) = true → decide (Int.ofNat
  (List.length σ.1) > 0) = true ∧ True ∧ True) (M.req (decide (Int.ofNat (List.length σ.1) > 0) = true → (decide (Int.ofNat (List.length σ.1) > 0) =
  true ∧ True) ∧ (c_math_bits_OnesCount (List.getD σ.1 (Int.toNat 0) 0)).safe ∧ True) (M.req (decide (Int.ofNat (List.length σ.1) > 0) = true → (decide
  (Int.ofNat (List.length σ.1) > 0) = true ∧ decide (Int.ofNat (List.length σ.1) > 0) = true) ∧ True ∧ True) (M.req (True ∧ (decide (Int.ofNat
  (List.length σ.1) > 0) = true → decide (Int.ofNat (List.length σ.1) > 0) = true)) (if (decide (Int.ofNat (List.length σ.1) > 0) && decide (M.val
  (c_math_bits_OnesCount y) 0 > M.val (c_math_bits_OnesCount (List.getD σ.1 (Int.toNat 0) 0)) 0)) = true then M.pure (Ex.exit 0, σ.1, ()) else M.req
  (lenLe (Add.add (List.length σ.1) (Add.add 0 1))) (M.pure (Ex.normal, σ.1 ++ [y], ()))))))))) fun p => M.pure (p.1, p.2.1, ())) (itseq_84 y.1) ([],
  ())) fun p => exC (M.pure (Step.next (p.2.1, ()))) (fun id => if id = 0 then M.pure (Step.next (p.2.1, ())) else M.bind M.fail fun r => M.pure
  (Step.done r)) (M.bind M.fail fun r => M.pure (Step.done r)) p.1)) (Step.go fun (σ : List Int × Unit) => if decide (Int.ofNat (List.length σ.1) = 0)
  = true then M.pure ([], 3) else M.pure (σ.1, 0))
noncomputable def S_parts_list  (x : Int) : M (List Int) :=
  M.bind (M.loop (fun (σ : Int × Int × List Int × Unit) => if decide (σ.2.1 < 10) = true then M.bind (M.req (0 ≤ σ.2.1) (if decide (iand .u64 (ishr
  .u64 σ.1 σ.2.1) (1 : Int) = 1) = true then M.req (lenLe (Add.add (List.length σ.2.2.1) (Add.add 0 1))) (M.pure (Step.next (σ.1, σ.2.1, σ.2.2.1 ++
  [σ.2.1], ()))) else M.pure (Step.next (σ.1, σ.2.1, σ.2.2.1, ())))) (Step.go fun (σ : Int × Int × List Int × Unit) => M.pure (Step.next (σ.1,
  IntKind.wrap .i64 (Add.add σ.2.1 1), σ.2.2.1, ()))) else M.bind (M.pure (Step.next (σ.2.2.1, ()))) fun r => M.pure (Step.done r)) (x, 0, [], ()))
  (Step.go fun (σ : List Int × Unit) => M.pure σ.1)
noncomputable def S_parts_begin (c_parts_open : Wsh × Bool → M (Option Shp × Int)) (c_parts_shop_fits : Option Shp × Int × Int × Int → M Int) (c_parts_all_int : List Int × (Int → M Bool) → M Bool) (c_parts_all_api_Job : List (Int × Int) × (Int × Int → M Bool) → M Bool) (c_slices_Repeat : List Int × Int × Unit → M (List Int × Unit)) (c_parts_task_give : Int × List (List Int) × List Int × List Int × List (Int × Int) × Unit → M (Bool × List (List Int) × List Int × List Int × List (Int × Int) × Unit)) (c_parts_begin_c2 : (Int × Int) × Option Wsh → M Bool) (c_parts_begin_c1 : Int → M Bool) (x : Wsh × List Int × List (Int × Int)) : M (Option (List (List Int) × List Int × List Int) × Int) :=
  M.bind (gdo (decide (Int.ofNat (List.length x.2.1) = Int.ofNat (List.length x.1.1))) (c_parts_all_int (x.2.1, c_parts_begin_c1)) false) fun y =>
  M.bind (gdo (decide (Int.ofNat (List.length x.2.1) = Int.ofNat (List.length x.1.1)) && y && decide (Int.ofNat (List.length x.2.2) ≤ 10))
  (c_parts_all_api_Job (x.2.2, fun x_1 => c_parts_begin_c2 (x_1, some x.1))) false) fun y_1 => M.bind (c_parts_open (x.1, decide (Int.ofNat
  (List.length x.2.1) = Int.ofNat (List.length x.1.1)) && y && decide (Int.ofNat (List.length x.2.2) ≤ 10) && y_1)) fun y => if decide (y.2 ≠ 0) = true
  then M.pure (none, y.2) else M.bind (c_slices_Repeat ([-1], Int.ofNat (List.length x.2.2), ())) fun y_2 => M.bind (M.loop (fun (σ : List (Int × Int)
  × Option Shp × List (Int × Int) × Int × Int × Wsh × List Int × List (List Int) × List Int × Unit) => if decide (σ.2.2.2.2.1 < σ.2.2.2.1) = true then
  M.bind (M.req (0 ≤ σ.2.2.2.2.1 ∧ σ.2.2.2.2.1 < Int.ofNat (List.length σ.2.2.1)) (M.bind (M.loop (fun (σ : List (Int × Int) × Option Shp × List (Int ×
  Int) × Int × Int × Int × Int × Wsh × (Int × Int) × List Int × List Int × List (List Int) × List Int × Unit) => if decide (σ.2.2.2.2.2.2.1 <
  σ.2.2.2.2.2.1) = true then M.bind (M.bind (c_parts_shop_fits (σ.2.1, σ.2.2.2.2.2.2.1, σ.2.2.2.2.2.2.2.2.1)) fun y => if decide (y = 1) = true then
  M.req (lenLe (Add.add (List.length σ.2.2.2.2.2.2.2.2.2.1) (Add.add 0 1))) (M.pure (Step.next (σ.1, σ.2.1, σ.2.2.1, σ.2.2.2.1, σ.2.2.2.2.1,
  σ.2.2.2.2.2.1, σ.2.2.2.2.2.2.1, σ.2.2.2.2.2.2.2.1, σ.2.2.2.2.2.2.2.2.1, σ.2.2.2.2.2.2.2.2.2.1 ++ [σ.2.2.2.2.2.2.1], σ.2.2.2.2.2.2.2.2.2.2.1,
  σ.2.2.2.2.2.2.2.2.2.2.2.1, σ.2.2.2.2.2.2.2.2.2.2.2.2.1, ()))) else M.pure (Step.next (σ.1, σ.2.1, σ.2.2.1, σ.2.2.2.1, σ.2.2.2.2.1, σ.2.2.2.2.2.1,
  σ.2.2.2.2.2.2.1, σ.2.2.2.2.2.2.2.1, σ.2.2.2.2.2.2.2.2.1, σ.2.2.2.2.2.2.2.2.2.1, σ.2.2.2.2.2.2.2.2.2.2.1, σ.2.2.2.2.2.2.2.2.2.2.2.1,
  σ.2.2.2.2.2.2.2.2.2.2.2.2.1, ()))) (Step.go fun (σ : List (Int × Int) × Option Shp × List (Int × Int) × Int × Int × Int × Int × Wsh × (Int × Int) ×
  List Int × List Int × List (List Int) × List Int × Unit) => M.pure (Step.next (σ.1, σ.2.1, σ.2.2.1, σ.2.2.2.1, σ.2.2.2.2.1, σ.2.2.2.2.2.1,
  IntKind.wrap .i64 (Add.add σ.2.2.2.2.2.2.1 1), σ.2.2.2.2.2.2.2.1, σ.2.2.2.2.2.2.2.2.1, σ.2.2.2.2.2.2.2.2.2.1, σ.2.2.2.2.2.2.2.2.2.2.1,
  σ.2.2.2.2.2.2.2.2.2.2.2.1, σ.2.2.2.2.2.2.2.2.2.2.2.2.1, ()))) else M.bind (M.pure (Step.next (σ.1, σ.2.1, σ.2.2.1, σ.2.2.2.1, σ.2.2.2.2.1,
  σ.2.2.2.2.2.2.2.1, σ.2.2.2.2.2.2.2.2.2.1, σ.2.2.2.2.2.2.2.2.2.2.1, σ.2.2.2.2.2.2.2.2.2.2.2.1, σ.2.2.2.2.2.2.2.2.2.2.2.2.1, ()))) fun r => M.pure
  (Step.done r)) (σ.1, σ.2.1, σ.2.2.1, σ.2.2.2.1, σ.2.2.2.2.1, Int.ofNat (List.length σ.2.2.2.2.2.1.1), 0, σ.2.2.2.2.2.1, List.getD σ.2.2.1 (Int.toNat
  σ.2.2.2.2.1) (0, 0), [], σ.2.2.2.2.2.2.1, σ.2.2.2.2.2.2.2.1, σ.2.2.2.2.2.2.2.2.1, ())) (Step.go fun (σ : List (Int × Int) × Option Shp × List (Int ×
  Int) × Int × Int × Wsh × List Int × List Int × List (List Int) × List Int × Unit) => M.req True (M.req (lenLe (Add.add (List.length
  σ.2.2.2.2.2.2.2.2.1) (Add.add 0 1))) (M.req True (M.pure (Step.next (σ.1, σ.2.1, σ.2.2.1, σ.2.2.2.1, σ.2.2.2.2.1, σ.2.2.2.2.2.1, σ.2.2.2.2.2.2.2.1,
  σ.2.2.2.2.2.2.2.2.1 ++ [σ.2.2.2.2.2.2.1], σ.2.2.2.2.2.2.2.2.2.1, ())))))))) (Step.go fun (σ : List (Int × Int) × Option Shp × List (Int × Int) × Int
  × Int × Wsh × List Int × List (List Int) × List Int × Unit) => M.pure (Step.next (σ.1, σ.2.1, σ.2.2.1, σ.2.2.2.1, IntKind.wrap .i64 (Add.add
  σ.2.2.2.2.1 1), σ.2.2.2.2.2.1, σ.2.2.2.2.2.2.1, σ.2.2.2.2.2.2.2.1, σ.2.2.2.2.2.2.2.2.1, ()))) else M.bind (M.pure (Step.next (σ.1, σ.2.2.2.2.2.2.1,
  σ.2.2.2.2.2.2.2.1, σ.2.2.2.2.2.2.2.2.1, ()))) fun r => M.pure (Step.done r)) (x.2.2, y.1, x.2.2, Int.ofNat (List.length x.2.2), 0, x.1, x.2.1, [],
  y_2.1, ())) (Step.go fun (σ : List (Int × Int) × List Int × List (List Int) × List Int × Unit) => M.bind (M.loop (fun (σ : Int × Int × List (List
  Int) × List Int × List Int × Unit) => if decide (σ.2.1 < σ.1) = true then M.bind (c_parts_task_give (σ.2.1, σ.2.2.1, σ.2.2.2.1, σ.2.2.2.2.1, [], ()))
  fun y => M.pure (Step.next (σ.1, IntKind.wrap .i64 (Add.add σ.2.1 1), y.2.1, y.2.2.1, y.2.2.2.1, ())) else M.bind (M.pure (Step.next (σ.2.2.1,
  σ.2.2.2.1, σ.2.2.2.2.1, ()))) fun r => M.pure (Step.done r)) (Int.ofNat (List.length σ.1), 0, σ.2.2.1, σ.2.1, σ.2.2.2.1, ())) (Step.go fun (σ : List
  (List Int) × List Int × List Int × Unit) => M.pure (some (σ.1, σ.2.1, σ.2.2.1), 0)))
noncomputable def S_parts_task_holders  (x : Option (List (List Int) × List Int × List Int) × Int) : M (List Int) :=
  M.bind (M.req (Option.isSome x.1 = true) (M.loop (fun (σ : Int × List Int × Int × Int × List Int × Unit) => if decide (σ.2.2.2.1 < σ.2.2.1) = true
  then M.bind (M.req (0 ≤ σ.2.2.2.1 ∧ σ.2.2.2.1 < Int.ofNat (List.length σ.2.1)) (if decide (List.getD σ.2.1 (Int.toNat σ.2.2.2.1) 0 = σ.1) = true then
  M.req (lenLe (Add.add (List.length σ.2.2.2.2.1) (Add.add 0 1))) (M.pure (Step.next (σ.1, σ.2.1, σ.2.2.1, σ.2.2.2.1, σ.2.2.2.2.1 ++ [σ.2.2.2.1], ())))
  else M.pure (Step.next (σ.1, σ.2.1, σ.2.2.1, σ.2.2.2.1, σ.2.2.2.2.1, ())))) (Step.go fun (σ : Int × List Int × Int × Int × List Int × Unit) => M.pure
  (Step.next (σ.1, σ.2.1, σ.2.2.1, IntKind.wrap .i64 (Add.add σ.2.2.2.1 1), σ.2.2.2.2.1, ()))) else M.bind (M.pure (Step.next (σ.2.2.2.2.1, ()))) fun r
  => M.pure (Step.done r)) (x.2, (Option.getD x.1 ([], [], [])).2.2, Int.ofNat (List.length (Option.getD x.1 ([], [], [])).2.2), 0, [], ()))) (Step.go
  fun (σ : List Int × Unit) => M.pure σ.1)
noncomputable def S_parts_isWorkshop (c_parts_within : Int × Int × Int → M Bool) (c_parts_all_api_Spare : List (Int × Int × Int × Int) × (Int × Int × Int × Int → M Bool) → M Bool) (c_parts_all_api_Make : List (List (Int × List Int × Int × Int)) × (List (Int × List Int × Int × Int) → M Bool) → M Bool) (c_parts_all_api_Trial : List (Int × Int × Int × Int) × (Int × Int × Int × Int → M Bool) → M Bool) (c_parts_isWorkshop_c3 : List (Int × List Int × Int × Int) × Option (Int × List Int × Int × Int → M Bool) → M Bool) (c_parts_isWorkshop_c4 : (Int × Int × Int × Int) × Option Wsh → M Bool) (c_parts_isWorkshop_c1 : Int × Int × Int × Int → M Bool) (c_parts_isWorkshop_c2 : Int × List Int × Int × Int → M Bool) (x : List (Int × Int × Int × Int) × List (List (Int × List Int × Int × Int)) × Int × List (Int × Int × Int × Int)) : M Bool :=
  M.bind (gdo (decide (Int.ofNat (List.length x.1) ≤ 10)) (c_parts_all_api_Spare (x.1, c_parts_isWorkshop_c1)) false) fun y => M.bind (gdo (decide
  (Int.ofNat (List.length x.1) ≤ 10) && y && decide (Int.ofNat (List.length x.2.1) ≤ 6)) (c_parts_all_api_Make (x.2.1, fun x => c_parts_isWorkshop_c3
  (x, some c_parts_isWorkshop_c2))) false) fun y_1 => M.bind (gdo (decide (Int.ofNat (List.length x.1) ≤ 10) && y && decide (Int.ofNat (List.length
  x.2.1) ≤ 6) && y_1) (c_parts_within (x.2.2.1, 0, 99)) false) fun y_2 => M.bind (gdo (decide (Int.ofNat (List.length x.1) ≤ 10) && y && decide
  (Int.ofNat (List.length x.2.1) ≤ 6) && y_1 && y_2 && decide (Int.ofNat (List.length x.2.2.2) ≤ 30)) (c_parts_all_api_Trial (x.2.2.2, fun x_1 =>
  c_parts_isWorkshop_c4 (x_1, some x))) false) fun y_3 => M.pure (decide (Int.ofNat (List.length x.1) ≤ 10) && y && decide (Int.ofNat (List.length
  x.2.1) ≤ 6) && y_1 && y_2 && decide (Int.ofNat (List.length x.2.2.2) ≤ 30) && y_3)
noncomputable def S_parts_open (c_parts_Check : List (Int × Int × Int × Int) × List (List (Int × List Int × Int × Int)) × Int × List (Int × Int × Int × Int) → M Int) (c_parts_all_api_Trial : List (Int × Int × Int × Int) × (Int × Int × Int × Int → M Bool) → M Bool) (c_parts_open_c1 : (Int × Int × Int × Int) × Option Int × Option Wsh × Option Int → M Bool) (x : Wsh × Bool) : M (Option Shp × Int) :=
  M.bind (c_parts_Check x.1) fun y => if decide (y ≠ 0) = true then M.pure (none, y) else if (!x.2) = true then M.pure (none, 1) else M.bind (M.loop
  (fun (σ : List (Int × Int × Int × Int) × Int × Int × Wsh × List (Int × Int × Int × Int) × List (List (Int × List Int × Int × Int)) × Int × List (Int
  × Int × Int × Int) × List (List Int) × Unit) => if decide (σ.2.2.1 < σ.2.1) = true then M.bind (M.req (0 ≤ σ.2.2.1 ∧ σ.2.2.1 < Int.ofNat (List.length
  σ.1)) (M.bind (M.loop (fun (σ : List (Int × Int × Int × Int) × Int × Int × Wsh × Int × (Int × Int × Int × Int) × List Int × Int × List (Int × Int ×
  Int × Int) × List (List (Int × List Int × Int × Int)) × Int × List (Int × Int × Int × Int) × List (List Int) × Unit) => if decide (σ.2.2.2.2.2.2.2.1
  ≤ σ.2.2.2.2.2.1.2.2.2) = true then M.bind (M.bind (c_parts_all_api_Trial (σ.2.2.2.1.2.2.2, fun x => c_parts_open_c1 (x, some σ.2.2.2.2.1, some
  σ.2.2.2.1, some σ.2.2.2.2.2.2.2.1))) fun y => if y = true then M.req (lenLe (Add.add (List.length σ.2.2.2.2.2.2.1) (Add.add 0 1))) (M.pure (Step.next
  (σ.1, σ.2.1, σ.2.2.1, σ.2.2.2.1, σ.2.2.2.2.1, σ.2.2.2.2.2.1, σ.2.2.2.2.2.2.1 ++ [σ.2.2.2.2.2.2.2.1], σ.2.2.2.2.2.2.2.1, σ.2.2.2.2.2.2.2.2.1,
  σ.2.2.2.2.2.2.2.2.2.1, σ.2.2.2.2.2.2.2.2.2.2.1, σ.2.2.2.2.2.2.2.2.2.2.2.1, σ.2.2.2.2.2.2.2.2.2.2.2.2.1, ()))) else M.pure (Step.next (σ.1, σ.2.1,
  σ.2.2.1, σ.2.2.2.1, σ.2.2.2.2.1, σ.2.2.2.2.2.1, σ.2.2.2.2.2.2.1, σ.2.2.2.2.2.2.2.1, σ.2.2.2.2.2.2.2.2.1, σ.2.2.2.2.2.2.2.2.2.1,
  σ.2.2.2.2.2.2.2.2.2.2.1, σ.2.2.2.2.2.2.2.2.2.2.2.1, σ.2.2.2.2.2.2.2.2.2.2.2.2.1, ()))) (Step.go fun (σ : List (Int × Int × Int × Int) × Int × Int ×
  Wsh × Int × (Int × Int × Int × Int) × List Int × Int × List (Int × Int × Int × Int) × List (List (Int × List Int × Int × Int)) × Int × List (Int ×
  Int × Int × Int) × List (List Int) × Unit) => M.pure (Step.next (σ.1, σ.2.1, σ.2.2.1, σ.2.2.2.1, σ.2.2.2.2.1, σ.2.2.2.2.2.1, σ.2.2.2.2.2.2.1,
  IntKind.wrap .i64 (Add.add σ.2.2.2.2.2.2.2.1 1), σ.2.2.2.2.2.2.2.2.1, σ.2.2.2.2.2.2.2.2.2.1, σ.2.2.2.2.2.2.2.2.2.2.1, σ.2.2.2.2.2.2.2.2.2.2.2.1,
  σ.2.2.2.2.2.2.2.2.2.2.2.2.1, ()))) else M.bind (M.pure (Step.next (σ.1, σ.2.1, σ.2.2.1, σ.2.2.2.1, σ.2.2.2.2.2.2.1, σ.2.2.2.2.2.2.2.2.1,
  σ.2.2.2.2.2.2.2.2.2.1, σ.2.2.2.2.2.2.2.2.2.2.1, σ.2.2.2.2.2.2.2.2.2.2.2.1, σ.2.2.2.2.2.2.2.2.2.2.2.2.1, ()))) fun r => M.pure (Step.done r)) (σ.1,
  σ.2.1, σ.2.2.1, σ.2.2.2.1, σ.2.2.1, List.getD σ.1 (Int.toNat σ.2.2.1) (0, 0, 0, 0), [], (List.getD σ.1 (Int.toNat σ.2.2.1) (0, 0, 0, 0)).2.2.1,
  σ.2.2.2.2.1, σ.2.2.2.2.2.1, σ.2.2.2.2.2.2.1, σ.2.2.2.2.2.2.2.1, σ.2.2.2.2.2.2.2.2.1, ())) (Step.go fun (σ : List (Int × Int × Int × Int) × Int × Int
  × Wsh × List Int × List (Int × Int × Int × Int) × List (List (Int × List Int × Int × Int)) × Int × List (Int × Int × Int × Int) × List (List Int) ×
  Unit) => if decide (Int.ofNat (List.length σ.2.2.2.2.1) = 0) = true then M.bind (M.bind (M.bind (M.pure (none, 3)) fun r => M.pure (Step.done r)) fun r
  => M.pure (Step.done r)) fun r => M.pure (Step.done r) else M.req True (M.req (lenLe (Add.add (List.length σ.2.2.2.2.2.2.2.2.2.1) (Add.add 0 1)))
  (M.req True (M.pure (Step.next (σ.1, σ.2.1, σ.2.2.1, σ.2.2.2.1, σ.2.2.2.2.2.1, σ.2.2.2.2.2.2.1, σ.2.2.2.2.2.2.2.1, σ.2.2.2.2.2.2.2.2.1,
  σ.2.2.2.2.2.2.2.2.2.1 ++ [σ.2.2.2.2.1], ())))))))) (Step.go fun (σ : List (Int × Int × Int × Int) × Int × Int × Wsh × List (Int × Int × Int × Int) ×
  List (List (Int × List Int × Int × Int)) × Int × List (Int × Int × Int × Int) × List (List Int) × Unit) => M.pure (Step.next (σ.1, σ.2.1,
  IntKind.wrap .i64 (Add.add σ.2.2.1 1), σ.2.2.2.1, σ.2.2.2.2.1, σ.2.2.2.2.2.1, σ.2.2.2.2.2.2.1, σ.2.2.2.2.2.2.2.1, σ.2.2.2.2.2.2.2.2.1, ()))) else
  M.bind (M.pure (Step.next (σ.2.2.2.2.1, σ.2.2.2.2.2.1, σ.2.2.2.2.2.2.1, σ.2.2.2.2.2.2.2.1, σ.2.2.2.2.2.2.2.2.1, ()))) fun r => M.pure (Step.done r))
  (x.1.1, Int.ofNat (List.length x.1.1), 0, x.1, x.1.1, x.1.2.1, x.1.2.2.1, x.1.2.2.2, [], ())) (Step.go fun (σ : List (Int × Int × Int × Int) × List
  (List (Int × List Int × Int × Int)) × Int × List (Int × Int × Int × Int) × List (List Int) × Unit) => M.pure (some ((σ.1, σ.2.1, σ.2.2.1, σ.2.2.2.1),
  σ.2.2.2.2.1), 0))
noncomputable def S_parts_isSpare (c_parts_within : Int × Int × Int → M Bool) (x : Wsh × Int) : M Bool :=
  M.bind (c_parts_within (x.2, 0, IntKind.wrap .i64 (Int.ofNat (List.length x.1.1) - 1))) fun y => M.pure y
noncomputable def S_parts_isSlot (c_parts_within : Int × Int × Int → M Bool) (x : Wsh × Int × Int) : M Bool :=
  M.bind (c_parts_within (x.2.1, 0, IntKind.wrap .i64 (Int.ofNat (List.length x.1.2.1) - 1))) fun y => M.req (y = true → (y = true ∧ y = true) ∧ (0 ≤
  x.2.1 ∧ x.2.1 < Int.ofNat (List.length x.1.2.1)) ∧ True) (M.bind (gdo y (c_parts_within (x.2.2, 0, IntKind.wrap .i64 (Int.ofNat (List.length
  (List.getD x.1.2.1 (Int.toNat x.2.1) [])) - 1))) false) fun y_1 => M.pure (y && y_1))
noncomputable def S_parts_shop_fits (c_parts_fits : Wsh × Int × Int × Int × Int → M Bool) (c_parts_known : Int × Int → M Int) (x : Option Shp × Int × Int × Int) : M Int :=
  M.bind (M.req (Option.isSome x.1 = true) (M.req (0 ≤ x.2.1 ∧ x.2.1 < Int.ofNat (List.length (Option.getD x.1 (([], [], 0, []), [])).2)) (M.loop (fun (σ
  : Option Shp × Int × Int × Int × Int × List Int × Int × Int × Unit) => if decide (σ.2.2.2.2.2.2.2.1 < σ.2.2.2.2.2.2.1) = true then M.bind (M.req (0 ≤
  σ.2.2.2.2.2.2.2.1 ∧ σ.2.2.2.2.2.2.2.1 < Int.ofNat (List.length σ.2.2.2.2.2.1)) (M.req (Option.isSome σ.1 = true) (M.bind (c_parts_fits ((Option.getD
  σ.1 (([], [], 0, []), [])).1, σ.2.1, List.getD σ.2.2.2.2.2.1 (Int.toNat σ.2.2.2.2.2.2.2.1) 0, σ.2.2.1, σ.2.2.2.1)) fun y => if y = true then M.pure
  (Step.next (σ.1, σ.2.1, σ.2.2.1, σ.2.2.2.1, IntKind.wrap .i64 (Add.add σ.2.2.2.2.1 1), σ.2.2.2.2.2.1, σ.2.2.2.2.2.2.1, σ.2.2.2.2.2.2.2.1, ())) else
  M.pure (Step.next (σ.1, σ.2.1, σ.2.2.1, σ.2.2.2.1, σ.2.2.2.2.1, σ.2.2.2.2.2.1, σ.2.2.2.2.2.2.1, σ.2.2.2.2.2.2.2.1, ()))))) (Step.go fun (σ : Option
  Shp × Int × Int × Int × Int × List Int × Int × Int × Unit) => M.pure (Step.next (σ.1, σ.2.1, σ.2.2.1, σ.2.2.2.1, σ.2.2.2.2.1, σ.2.2.2.2.2.1,
  σ.2.2.2.2.2.2.1, IntKind.wrap .i64 (Add.add σ.2.2.2.2.2.2.2.1 1), ()))) else M.bind (M.pure (Step.next (σ.1, σ.2.1, σ.2.2.2.2.1, ()))) fun r =>
  M.pure (Step.done r)) (x.1, x.2.1, x.2.2.1, x.2.2.2, 0, List.getD (Option.getD x.1 (([], [], 0, []), [])).2 (Int.toNat x.2.1) [], Int.ofNat
  (List.length (List.getD (Option.getD x.1 (([], [], 0, []), [])).2 (Int.toNat x.2.1) [])), 0, ())))) (Step.go fun (σ : Option Shp × Int × Int × Unit)
  => M.req (Option.isSome σ.1 = true) (M.req (0 ≤ σ.2.1 ∧ σ.2.1 < Int.ofNat (List.length (Option.getD σ.1 (([], [], 0, []), [])).2)) (M.bind
  (c_parts_known (σ.2.2.1, Int.ofNat (List.length (List.getD (Option.getD σ.1 (([], [], 0, []), [])).2 (Int.toNat σ.2.1) [])))) fun y => M.pure y)))
noncomputable def S_parts_ascending  (x : List Int) : M Bool :=
  M.bind (M.loop (fun (σ : List Int × Int × Unit) => if decide (σ.2.1 < Int.ofNat (List.length σ.1)) = true then M.req (0 ≤ σ.2.1 ∧ σ.2.1 < Int.ofNat
  (List.length σ.1)) (M.req (0 ≤ IntKind.wrap .i64 (σ.2.1 - 1) ∧ IntKind.wrap .i64 (σ.2.1 - 1) < Int.ofNat (List.length σ.1)) (if decide (List.getD σ.1
  (Int.toNat σ.2.1) 0 ≤ List.getD σ.1 (Int.toNat (IntKind.wrap .i64 (σ.2.1 - 1))) 0) = true then M.bind (M.bind (M.pure false) fun r => M.pure
  (Step.done r)) fun r => M.pure (Step.done r) else M.pure (Step.next (σ.1, IntKind.wrap .i64 (Add.add σ.2.1 1), ())))) else M.bind (M.pure (Step.next
  ())) fun r => M.pure (Step.done r)) (x, 1, ())) (Step.go fun (σ : Unit) => M.pure true)
noncomputable def S_parts_all_int (c_slices_ContainsFunc_int_int : List Int × (Int → M Bool) → M Bool) (c_parts_all_int__c1 : Int × Option (Int → M Bool) → M Bool) (x : List Int × (Int → M Bool)) : M Bool :=
  M.bind (c_slices_ContainsFunc_int_int (x.1, fun x_1 => c_parts_all_int__c1 (x_1, some x.2))) fun y => M.pure !y
noncomputable def S_parts_Mends_c1 (c_parts_isSpare : Wsh × Int → M Bool) (x : Int × Option Wsh) : M Bool :=
  (M.bind (c_parts_isSpare (Option.getD x.2 ([], [], 0, []), x.1)) fun y => M.pure y)
noncomputable def S_parts_within  (x : Int × Int × Int) : M Bool :=
  M.pure (decide (x.2.1 ≤ x.1) && decide (x.1 ≤ x.2.2))
noncomputable def S_parts_shop_mends (c_parts_known : Int × Int → M Int) (c_parts_shop_mended : Option Shp × List Int × Int → M (List (Int × Int))) (x : Option Shp × List Int × Int) : M Int :=
  M.bind (c_parts_shop_mended x) fun y => M.bind (M.req (Option.isSome x.1 = true) (M.req (0 ≤ x.2.2 ∧ x.2.2 < Int.ofNat (List.length (Option.getD x.1
  (([], [], 0, []), [])).1.2.1)) (M.req (0 ≤ Int.ofNat (List.length (List.getD (Option.getD x.1 (([], [], 0, []), [])).1.2.1 (Int.toNat x.2.2) [])))
  (if decide (Option.getD (Option.map (fun x => x.2) (List.find? (fun p => decide (IntKind.wrap .i64 (ishl .i64 1 (Int.ofNat (List.length (List.getD
  (Option.getD x.1 (([], [], 0, []), [])).1.2.1 (Int.toNat x.2.2) []))) - 1) = p.1)) y)) (0 : Int) > 0) = true then M.pure (Step.next (y, 1, ())) else
  M.pure (Step.next (y, 0, ())))))) (Step.go fun (σ : List (Int × Int) × Int × Unit) => M.req (lenLe (List.length σ.1)) (M.bind (c_parts_known (σ.2.1,
  Int.ofNat (List.length σ.1))) fun y => M.pure y))
noncomputable def S_parts_begin_c1 (c_parts_within : Int × Int × Int → M Bool) (x : Int) : M Bool :=
  M.bind (c_parts_within (x, 0, 10)) fun y => M.pure y
noncomputable def S_parts_all_api_Job (c_slices_ContainsFunc_api_Job_api_Job : List (Int × Int) × (Int × Int → M Bool) → M Bool) (c_parts_all_api_Job__c1 : (Int × Int) × Option (Int × Int → M Bool) → M Bool) (x : List (Int × Int) × (Int × Int → M Bool)) : M Bool :=
  M.bind (c_slices_ContainsFunc_api_Job_api_Job (x.1, fun x_1 => c_parts_all_api_Job__c1 (x_1, some x.2))) fun y => M.pure !y
noncomputable def S_parts_begin_c2 (c_parts_isSlot : Wsh × Int × Int → M Bool) (x : (Int × Int) × Option Wsh) : M Bool :=
  (M.bind (c_parts_isSlot (Option.getD x.2 ([], [], 0, []), x.1)) fun y => M.pure y)
noncomputable def S_parts_isWorkshop_c1 (c_parts_isMark : Int → M Bool) (c_parts_isLength : Int × Int → M Bool) (x : Int × Int × Int × Int) : M Bool :=
  M.bind (c_parts_isMark x.1) fun y => M.bind (gdo y (c_parts_isMark x.2.1) false) fun y_1 => M.bind (gdo (y && y_1) (c_parts_isLength x.2.2) false)
  fun y_2 => M.pure (y && y_1 && y_2)
noncomputable def S_parts_isMark (c_parts_within : Int × Int × Int → M Bool) (x : Int) : M Bool :=
  M.bind (c_parts_within (x, 0, 9)) fun y => M.pure y
noncomputable def S_parts_isLength (c_parts_within : Int × Int × Int → M Bool) (x : Int × Int) : M Bool :=
  M.bind (c_parts_within (x.1, 0, x.2)) fun y => M.pure (y && decide (x.2 ≤ 999))
noncomputable def S_parts_isWorkshop_c2 (c_parts_ascending : List Int → M Bool) (c_parts_all_int : List Int × (Int → M Bool) → M Bool) (c_parts_isMark : Int → M Bool) (c_parts_isLength : Int × Int → M Bool) (x : Int × List Int × Int × Int) : M Bool :=
  M.bind (c_parts_isMark x.1) fun y => M.bind (gdo (y && decide (Int.ofNat (List.length x.2.1) ≤ 4)) (c_parts_all_int (x.2.1, c_parts_isMark)) false)
  fun y_1 => M.bind (gdo (y && decide (Int.ofNat (List.length x.2.1) ≤ 4) && y_1) (c_parts_ascending x.2.1) false) fun y_2 => M.bind (gdo (y && decide
  (Int.ofNat (List.length x.2.1) ≤ 4) && y_1 && y_2) (c_parts_isLength x.2.2) false) fun y_3 => M.pure (y && decide (Int.ofNat (List.length x.2.1) ≤ 4)
  && y_1 && y_2 && y_3)
noncomputable def S_parts_isWorkshop_c3 (c_parts_all_api_Slot : List (Int × List Int × Int × Int) × (Int × List Int × Int × Int → M Bool) → M Bool) (x : List (Int × List Int × Int × Int) × Option (Int × List Int × Int × Int → M Bool)) : M Bool :=
  (M.bind (gdo (decide (Int.ofNat (List.length x.1) ≤ 4)) (c_parts_all_api_Slot (x.1, Option.getD x.2 fun x => { safe := False, out := fun x => False
  })) false) fun y => M.pure (decide (Int.ofNat (List.length x.1) ≤ 4) && y))
noncomputable def S_parts_all_api_Slot (c_slices_ContainsFunc_api_Slot_api_Slot : List (Int × List Int × Int × Int) × (Int × List Int × Int × Int → M Bool) → M Bool) (c_parts_all_api_Slot__c1 : (Int × List Int × Int × Int) × Option (Int × List Int × Int × Int → M Bool) → M Bool) (x : List (Int × List Int × Int × Int) × (Int × List Int × Int × Int → M Bool)) : M Bool :=
  M.bind (c_slices_ContainsFunc_api_Slot_api_Slot (x.1, fun x_1 => c_parts_all_api_Slot__c1 (x_1, some x.2))) fun y => M.pure !y
noncomputable def S_parts_isWorkshop_c4 (c_parts_isSpare : Wsh × Int → M Bool) (c_parts_isSlot : Wsh × Int × Int → M Bool) (c_parts_within : Int × Int × Int → M Bool) (x : (Int × Int × Int × Int) × Option Wsh) : M Bool :=
  (M.bind (c_parts_isSpare (Option.getD x.2 ([], [], 0, []), x.1.1)) fun y => M.bind (gdo y (c_parts_isSlot (Option.getD x.2 ([], [], 0, []), x.1.2.1,
  x.1.2.2.1)) false) fun y_1 => M.bind (gdo (y && y_1) (c_parts_within (x.1.2.2.2, 0, 1)) false) fun y_2 => M.pure (y && y_1 && y_2))
noncomputable def S_parts_all_api_Spare (c_slices_ContainsFunc_api_Spare_api_Spare : List (Int × Int × Int × Int) × (Int × Int × Int × Int → M Bool) → M Bool) (c_parts_all_api_Spare__c1 : (Int × Int × Int × Int) × Option (Int × Int × Int × Int → M Bool) → M Bool) (x : List (Int × Int × Int × Int) × (Int × Int × Int × Int → M Bool)) : M Bool :=
  M.bind (c_slices_ContainsFunc_api_Spare_api_Spare (x.1, fun x_1 => c_parts_all_api_Spare__c1 (x_1, some x.2))) fun y => M.pure !y
noncomputable def S_parts_all_api_Make (c_slices_ContainsFunc_api_Make_api_Make : List (List (Int × List Int × Int × Int)) × (List (Int × List Int × Int × Int) → M Bool) → M Bool) (c_parts_all_api_Make__c1 : List (Int × List Int × Int × Int) × Option (List (Int × List Int × Int × Int) → M Bool) → M Bool) (x : List (List (Int × List Int × Int × Int)) × (List (Int × List Int × Int × Int) → M Bool)) : M Bool :=
  M.bind (c_slices_ContainsFunc_api_Make_api_Make (x.1, fun x_1 => c_parts_all_api_Make__c1 (x_1, some x.2))) fun y => M.pure !y
noncomputable def S_parts_all_api_Trial (c_slices_ContainsFunc_api_Trial_api_Trial : List (Int × Int × Int × Int) × (Int × Int × Int × Int → M Bool) → M Bool) (c_parts_all_api_Trial__c1 : (Int × Int × Int × Int) × Option (Int × Int × Int × Int → M Bool) → M Bool) (x : List (Int × Int × Int × Int) × (Int × Int × Int × Int → M Bool)) : M Bool :=
  M.bind (c_slices_ContainsFunc_api_Trial_api_Trial (x.1, fun x_1 => c_parts_all_api_Trial__c1 (x_1, some x.2))) fun y => M.pure !y
noncomputable def S_parts_open_c1 (c_parts_fits : Wsh × Int × Int × Int × Int → M Bool) (x : (Int × Int × Int × Int) × Option Int × Option Wsh × Option Int) : M Bool :=
  (M.req ((!decide (x.1.1 ≠ Option.getD x.2.1 0)) = true → (!decide (x.1.1 ≠ Option.getD x.2.1 0)) = true ∧ True ∧ True) (M.req ((!decide (x.1.1 ≠
  Option.getD x.2.1 0)) = true → (!decide (x.1.1 ≠ Option.getD x.2.1 0)) = true ∧ True ∧ True) (M.req ((!decide (x.1.1 ≠ Option.getD x.2.1 0)) = true →
  ((!decide (x.1.1 ≠ Option.getD x.2.1 0)) = true ∧ (!decide (x.1.1 ≠ Option.getD x.2.1 0)) = true ∧ (!decide (x.1.1 ≠ Option.getD x.2.1 0)) = true ∧
  (!decide (x.1.1 ≠ Option.getD x.2.1 0)) = true ∧ (!decide (x.1.1 ≠ Option.getD x.2.1 0)) = true ∧ True) ∧ (c_parts_fits (Option.getD x.2.2.1 ([], [],
  0, []), Option.getD x.2.1 0, Option.getD x.2.2.2 0, x.1.2.1, x.1.2.2.1)).safe ∧ True) (M.req ((!decide (x.1.1 ≠ Option.getD x.2.1 0)) = true →
  (!decide (x.1.1 ≠ Option.getD x.2.1 0)) = true ∧ True ∧ True) (M.req ((!decide (x.1.1 ≠ Option.getD x.2.1 0)) = true → ((!decide (x.1.1 ≠ Option.getD
  x.2.1 0)) = true ∧ True) ∧ True ∧ True) (M.req ((!decide (x.1.1 ≠ Option.getD x.2.1 0)) = true → ((!decide (x.1.1 ≠ Option.getD x.2.1 0)) = true ∧
  (!decide (x.1.1 ≠ Option.getD x.2.1 0)) = true) ∧ True ∧ True) (M.req (True ∧ (decide (x.1.1 ≠ Option.getD x.2.1 0) = false → (!decide (x.1.1 ≠
  Option.getD x.2.1 0)) = true)) (M.pure (decide (x.1.1 ≠ Option.getD x.2.1 0) || decide (M.val (c_parts_fits (Option.getD x.2.2.1 ([], [], 0, []),
  Option.getD x.2.1 0, Option.getD x.2.2.2 0, x.1.2.1, x.1.2.2.1)) false = decide (x.1.2.2.2 = 1)))))))))))
noncomputable def S_parts_fits (c_parts_within : Int × Int × Int → M Bool) (c_slices_Contains_int_int : List Int × Int → M Bool) (x : Wsh × Int × Int × Int × Int) : M Bool :=
  M.req (0 ≤ x.2.1 ∧ x.2.1 < Int.ofNat (List.length x.1.1)) (M.req (0 ≤ x.2.2.2.1 ∧ x.2.2.2.1 < Int.ofNat (List.length x.1.2.1)) (M.req (0 ≤ x.2.2.2.2
  ∧ x.2.2.2.2 < Int.ofNat (List.length (List.getD x.1.2.1 (Int.toNat x.2.2.2.1) []))) (M.bind (gdo (decide ((List.getD x.1.1 (Int.toNat x.2.1) (0, 0,
  0, 0)).1 = (List.getD (List.getD x.1.2.1 (Int.toNat x.2.2.2.1) []) (Int.toNat x.2.2.2.2) (0, [], 0, 0)).1)) (c_slices_Contains_int_int ((List.getD
  (List.getD x.1.2.1 (Int.toNat x.2.2.2.1) []) (Int.toNat x.2.2.2.2) (0, [], 0, 0)).2.1, (List.getD x.1.1 (Int.toNat x.2.1) (0, 0, 0, 0)).2.1)) false)
  fun y => M.bind (gdo (decide ((List.getD x.1.1 (Int.toNat x.2.1) (0, 0, 0, 0)).1 = (List.getD (List.getD x.1.2.1 (Int.toNat x.2.2.2.1) []) (Int.toNat
  x.2.2.2.2) (0, [], 0, 0)).1) && y) (c_parts_within (x.2.2.1, (List.getD (List.getD x.1.2.1 (Int.toNat x.2.2.2.1) []) (Int.toNat x.2.2.2.2) (0, [], 0,
  0)).2.2.1, IntKind.wrap .i64 (Add.add (List.getD (List.getD x.1.2.1 (Int.toNat x.2.2.2.1) []) (Int.toNat x.2.2.2.2) (0, [], 0, 0)).2.2.2 x.1.2.2.1)))
  false) fun y_1 => M.pure (decide ((List.getD x.1.1 (Int.toNat x.2.1) (0, 0, 0, 0)).1 = (List.getD (List.getD x.1.2.1 (Int.toNat x.2.2.2.1) [])
  (Int.toNat x.2.2.2.2) (0, [], 0, 0)).1) && y && y_1))))
noncomputable def S_parts_known  (x : Int × Int) : M Int :=
  if decide (x.1 = x.2) = true then M.pure 1 else if decide (x.1 = 0) = true then M.pure 2 else M.pure 3
noncomputable def S_parts_all_int__c1  (x : Int × Option (Int → M Bool)) : M Bool :=
  (M.bind (Option.getD x.2 (fun x => { safe := False, out := fun x => False }) x.1) fun y => M.pure !y)
noncomputable def S_parts_shop_mended (c_parts_fits : Wsh × Int × Int × Int × Int → M Bool) (x : Option Shp × List Int × Int) : M (List (Int × Int)) :=
  M.bind (M.loop (fun (σ : Option Shp × Int × List (Int × Int) × List Int × Int × Int × Unit) => if decide (σ.2.2.2.2.2.1 < σ.2.2.2.2.1) = true then
  M.bind (M.req (0 ≤ σ.2.2.2.2.2.1 ∧ σ.2.2.2.2.2.1 < Int.ofNat (List.length σ.2.2.2.1)) (M.bind (M.req (Option.isSome σ.1 = true) (M.req (0 ≤ List.getD
  σ.2.2.2.1 (Int.toNat σ.2.2.2.2.2.1) 0 ∧ List.getD σ.2.2.2.1 (Int.toNat σ.2.2.2.2.2.1) 0 < Int.ofNat (List.length (Option.getD σ.1 (([], [], 0, []),
  [])).2)) (M.loop (fun (σ : Option Shp × Int × List (Int × Int) × Int × List Int × Int × Int × List Int × Int × Int × List (Int × Int) × Unit) => if
  decide (σ.2.2.2.2.2.2.2.2.2.1 < σ.2.2.2.2.2.2.2.2.1) = true then M.bind (M.req (0 ≤ σ.2.2.2.2.2.2.2.2.2.1 ∧ σ.2.2.2.2.2.2.2.2.2.1 < Int.ofNat
  (List.length σ.2.2.2.2.2.2.2.1)) (M.bind (M.req (Option.isSome σ.1 = true) (M.req (0 ≤ σ.2.1 ∧ σ.2.1 < Int.ofNat (List.length (Option.getD σ.1 (([],
  [], 0, []), [])).1.2.1)) (M.loop (fun (σ : Option Shp × Int × List (Int × Int) × Int × Int × Int × List Int × Int × Int × List Int × Int × Int × Int
  × Int × List (Int × Int) × Unit) => if decide (σ.2.2.2.2.2.2.2.2.2.2.2.2.2.1 < σ.2.2.2.2.2.2.2.2.2.2.2.2.1) = true then M.bind (M.req (Option.isSome
  σ.1 = true) (M.bind (c_parts_fits ((Option.getD σ.1 (([], [], 0, []), [])).1, σ.2.2.2.1, σ.2.2.2.2.1, σ.2.1, σ.2.2.2.2.2.2.2.2.2.2.2.2.2.1)) fun y =>
  if y = true then M.req (0 ≤ σ.2.2.2.2.2.2.2.2.2.2.2.2.2.1) (M.pure (Step.next (σ.1, σ.2.1, σ.2.2.1, σ.2.2.2.1, σ.2.2.2.2.1, ior .i64 σ.2.2.2.2.2.1
  (ishl .i64 1 σ.2.2.2.2.2.2.2.2.2.2.2.2.2.1), σ.2.2.2.2.2.2.1, σ.2.2.2.2.2.2.2.1, σ.2.2.2.2.2.2.2.2.1, σ.2.2.2.2.2.2.2.2.2.1, σ.2.2.2.2.2.2.2.2.2.2.1,
  σ.2.2.2.2.2.2.2.2.2.2.2.1, σ.2.2.2.2.2.2.2.2.2.2.2.2.1, σ.2.2.2.2.2.2.2.2.2.2.2.2.2.1, σ.2.2.2.2.2.2.2.2.2.2.2.2.2.2.1, ()))) else M.pure (Step.next
  (σ.1, σ.2.1, σ.2.2.1, σ.2.2.2.1, σ.2.2.2.2.1, σ.2.2.2.2.2.1, σ.2.2.2.2.2.2.1, σ.2.2.2.2.2.2.2.1, σ.2.2.2.2.2.2.2.2.1, σ.2.2.2.2.2.2.2.2.2.1,
  σ.2.2.2.2.2.2.2.2.2.2.1, σ.2.2.2.2.2.2.2.2.2.2.2.1, σ.2.2.2.2.2.2.2.2.2.2.2.2.1, σ.2.2.2.2.2.2.2.2.2.2.2.2.2.1, σ.2.2.2.2.2.2.2.2.2.2.2.2.2.2.1,
  ())))) (Step.go fun (σ : Option Shp × Int × List (Int × Int) × Int × Int × Int × List Int × Int × Int × List Int × Int × Int × Int × Int × List (Int
  × Int) × Unit) => M.pure (Step.next (σ.1, σ.2.1, σ.2.2.1, σ.2.2.2.1, σ.2.2.2.2.1, σ.2.2.2.2.2.1, σ.2.2.2.2.2.2.1, σ.2.2.2.2.2.2.2.1,
  σ.2.2.2.2.2.2.2.2.1, σ.2.2.2.2.2.2.2.2.2.1, σ.2.2.2.2.2.2.2.2.2.2.1, σ.2.2.2.2.2.2.2.2.2.2.2.1, σ.2.2.2.2.2.2.2.2.2.2.2.2.1, IntKind.wrap .i64
  (Add.add σ.2.2.2.2.2.2.2.2.2.2.2.2.2.1 1), σ.2.2.2.2.2.2.2.2.2.2.2.2.2.2.1, ()))) else M.bind (M.pure (Step.next (σ.1, σ.2.1, σ.2.2.1, σ.2.2.2.1,
  σ.2.2.2.2.2.1, σ.2.2.2.2.2.2.1, σ.2.2.2.2.2.2.2.1, σ.2.2.2.2.2.2.2.2.1, σ.2.2.2.2.2.2.2.2.2.1, σ.2.2.2.2.2.2.2.2.2.2.1, σ.2.2.2.2.2.2.2.2.2.2.2.1,
  σ.2.2.2.2.2.2.2.2.2.2.2.2.2.2.1, ()))) fun r => M.pure (Step.done r)) (σ.1, σ.2.1, σ.2.2.1, σ.2.2.2.1, List.getD σ.2.2.2.2.2.2.2.1 (Int.toNat
  σ.2.2.2.2.2.2.2.2.2.1) 0, 0, σ.2.2.2.2.1, σ.2.2.2.2.2.1, σ.2.2.2.2.2.2.1, σ.2.2.2.2.2.2.2.1, σ.2.2.2.2.2.2.2.2.1, σ.2.2.2.2.2.2.2.2.2.1, Int.ofNat
  (List.length (List.getD (Option.getD σ.1 (([], [], 0, []), [])).1.2.1 (Int.toNat σ.2.1) [])), 0, σ.2.2.2.2.2.2.2.2.2.2.1, ())))) (Step.go fun (σ :
  Option Shp × Int × List (Int × Int) × Int × Int × List Int × Int × Int × List Int × Int × Int × List (Int × Int) × Unit) => M.bind (M.pure ()) fun y
  => M.loop (fun (σ : Option Shp × Int × List (Int × Int) × Int × Int × List Int × Int × Int × List Int × Int × Int × List (Int × Int) × (Option (Int ×
  Int) × List (Int × Int)) × Unit) => M.bind (pickI σ.2.2.2.2.2.2.2.2.2.2.2.2.1.2) fun y => if Option.isSome y = true then M.bind (M.req (Option.isSome
  (nxtC σ.2.2.2.2.2.2.2.2.2.2.2.2.1.1 σ.2.2.2.2.2.2.2.2.2.2.2.2.1.2 y) = true) (M.pure ())) fun y_1 => M.pure (Step.next (σ.1, σ.2.1, σ.2.2.1,
  σ.2.2.2.1, σ.2.2.2.2.1, σ.2.2.2.2.2.1, σ.2.2.2.2.2.2.1, σ.2.2.2.2.2.2.2.1, σ.2.2.2.2.2.2.2.2.1, σ.2.2.2.2.2.2.2.2.2.1, σ.2.2.2.2.2.2.2.2.2.2.1, msetI
  σ.2.2.2.2.2.2.2.2.2.2.2.1 (ior .i64 (Option.getD (Option.map (fun x => x.1) (nxtC σ.2.2.2.2.2.2.2.2.2.2.2.2.1.1 σ.2.2.2.2.2.2.2.2.2.2.2.2.1.2 y)) 0)
  σ.2.2.2.2.1) (IntKind.wrap .i64 (Add.add (Option.getD (Option.map (fun x => x.2) (List.find? (fun p => decide (ior .i64 (Option.getD (Option.map (fun x
  => x.1) (nxtC σ.2.2.2.2.2.2.2.2.2.2.2.2.1.1 σ.2.2.2.2.2.2.2.2.2.2.2.2.1.2 y)) 0) σ.2.2.2.2.1 = p.1)) σ.2.2.2.2.2.2.2.2.2.2.2.1)) 0) 1)), (nxtC
  σ.2.2.2.2.2.2.2.2.2.2.2.2.1.1 σ.2.2.2.2.2.2.2.2.2.2.2.2.1.2 y, nxtR σ.2.2.2.2.2.2.2.2.2.2.2.2.1.2 y), ())) else M.bind (M.pure (Step.next (σ.1,
  σ.2.1, σ.2.2.1, σ.2.2.2.1, σ.2.2.2.2.2.1, σ.2.2.2.2.2.2.1, σ.2.2.2.2.2.2.2.1, σ.2.2.2.2.2.2.2.2.1, σ.2.2.2.2.2.2.2.2.2.1, σ.2.2.2.2.2.2.2.2.2.2.1,
  σ.2.2.2.2.2.2.2.2.2.2.2.1, ()))) fun r => M.pure (Step.done r)) (σ.1, σ.2.1, σ.2.2.1, σ.2.2.2.1, σ.2.2.2.2.1, σ.2.2.2.2.2.1, σ.2.2.2.2.2.2.1,
  σ.2.2.2.2.2.2.2.1, σ.2.2.2.2.2.2.2.2.1, σ.2.2.2.2.2.2.2.2.2.1, σ.2.2.2.2.2.2.2.2.2.2.1, σ.2.2.2.2.2.2.2.2.2.2.2.1, (none, σ.2.2.1), ())))) (Step.go
  fun (σ : Option Shp × Int × List (Int × Int) × Int × List Int × Int × Int × List Int × Int × Int × List (Int × Int) × Unit) => M.pure (Step.next
  (σ.1, σ.2.1, σ.2.2.1, σ.2.2.2.1, σ.2.2.2.2.1, σ.2.2.2.2.2.1, σ.2.2.2.2.2.2.1, σ.2.2.2.2.2.2.2.1, σ.2.2.2.2.2.2.2.2.1, IntKind.wrap .i64 (Add.add
  σ.2.2.2.2.2.2.2.2.2.1 1), σ.2.2.2.2.2.2.2.2.2.2.1, ()))) else M.bind (M.pure (Step.next (σ.1, σ.2.1, σ.2.2.2.2.1, σ.2.2.2.2.2.1, σ.2.2.2.2.2.2.1,
  σ.2.2.2.2.2.2.2.2.2.2.1, ()))) fun r => M.pure (Step.done r)) (σ.1, σ.2.1, σ.2.2.1, List.getD σ.2.2.2.1 (Int.toNat σ.2.2.2.2.2.1) 0, σ.2.2.2.1,
  σ.2.2.2.2.1, σ.2.2.2.2.2.1, List.getD (Option.getD σ.1 (([], [], 0, []), [])).2 (Int.toNat (List.getD σ.2.2.2.1 (Int.toNat σ.2.2.2.2.2.1) 0)) [],
  Int.ofNat (List.length (List.getD (Option.getD σ.1 (([], [], 0, []), [])).2 (Int.toNat (List.getD σ.2.2.2.1 (Int.toNat σ.2.2.2.2.2.1) 0)) [])), 0,
  [], ())))) (Step.go fun (σ : Option Shp × Int × List Int × Int × Int × List (Int × Int) × Unit) => M.pure (Step.next (σ.1, σ.2.1, σ.2.2.1, σ.2.2.2.1,
  σ.2.2.2.2.1, σ.2.2.2.2.2.1, ()))))) (Step.go fun (σ : Option Shp × Int × List Int × Int × Int × List (Int × Int) × Unit) => M.pure (Step.next (σ.1,
  σ.2.1, σ.2.2.2.2.2.1, σ.2.2.1, σ.2.2.2.1, IntKind.wrap .i64 (Add.add σ.2.2.2.2.1 1), ()))) else M.bind (M.pure (Step.next (σ.2.2.1, ()))) fun r =>
  M.pure (Step.done r)) (x.1, x.2.2, msetI [] 0 1, x.2.1, Int.ofNat (List.length x.2.1), 0, ())) (Step.go fun (σ : List (Int × Int) × Unit) => M.pure
  σ.1)
noncomputable def S_parts_all_api_Job__c1  (x : (Int × Int) × Option (Int × Int → M Bool)) : M Bool :=
  (M.bind (Option.getD x.2 (fun x => { safe := False, out := fun x => False }) x.1) fun y => M.pure !y)
noncomputable def S_parts_all_api_Slot__c1  (x : (Int × List Int × Int × Int) × Option (Int × List Int × Int × Int → M Bool)) : M Bool :=
  (M.bind (Option.getD x.2 (fun x => { safe := False, out := fun x => False }) x.1) fun y => M.pure !y)
noncomputable def S_parts_all_api_Spare__c1  (x : (Int × Int × Int × Int) × Option (Int × Int × Int × Int → M Bool)) : M Bool :=
  (M.bind (Option.getD x.2 (fun x => { safe := False, out := fun x => False }) x.1) fun y => M.pure !y)
noncomputable def S_parts_all_api_Make__c1  (x : List (Int × List Int × Int × Int) × Option (List (Int × List Int × Int × Int) → M Bool)) : M Bool :=
  (M.bind (Option.getD x.2 (fun x => { safe := False, out := fun x => False }) x.1) fun y => M.pure !y)
noncomputable def S_parts_all_api_Trial__c1  (x : (Int × Int × Int × Int) × Option (Int × Int × Int × Int → M Bool)) : M Bool :=
  (M.bind (Option.getD x.2 (fun x => { safe := False, out := fun x => False }) x.1) fun y => M.pure !y)
noncomputable def S_parts_task_give (c_parts_task_holdersIO : Int × List (List Int) × List Int × List Int × Unit → M (List Int × List (List Int) × List Int × List Int × Unit)) (c_parts_task_give : Int × List (List Int) × List Int × List Int × List (Int × Int) × Unit → M (Bool × List (List Int) × List Int × List Int × List (Int × Int) × Unit)) (x : Int × List (List Int) × List Int × List Int × List (Int × Int) × Unit) : M (Bool × List (List Int) × List Int × List Int × List (Int × Int) × Unit) :=
  M.bind (M.req True (M.req (0 ≤ x.1 ∧ x.1 < Int.ofNat (List.length x.2.1)) (M.loop (fun (σ : Int × List Int × Int × Int × List (List Int) × List Int ×
  List Int × List (Int × Int) × Unit) => if decide (σ.2.2.2.1 < σ.2.2.1) = true then M.bind (M.req (0 ≤ σ.2.2.2.1 ∧ σ.2.2.2.1 < Int.ofNat (List.length
  σ.2.1)) (if decide (Option.getD (Option.map (fun x => x.2) (List.find? (fun p => decide (List.getD σ.2.1 (Int.toNat σ.2.2.2.1) 0 = p.1)) (msetI
  σ.2.2.2.2.2.2.2.1 (List.getD σ.2.1 (Int.toNat σ.2.2.2.1) 0) (IntKind.wrap .i64 (Add.add (Option.getD (Option.map (fun x => x.2) (List.find? (fun p =>
  decide (List.getD σ.2.1 (Int.toNat σ.2.2.2.1) 0 = p.1)) σ.2.2.2.2.2.2.2.1)) 0) 1))))) (0 : Int) > 1) = true then M.pure (Step.next (σ.1, σ.2.1,
  σ.2.2.1, σ.2.2.2.1, σ.2.2.2.2.1, σ.2.2.2.2.2.1, σ.2.2.2.2.2.2.1, msetI σ.2.2.2.2.2.2.2.1 (List.getD σ.2.1 (Int.toNat σ.2.2.2.1) 0) (IntKind.wrap .i64
  (Add.add (Option.getD (Option.map (fun x => x.2) (List.find? (fun p => decide (List.getD σ.2.1 (Int.toNat σ.2.2.2.1) 0 = p.1)) σ.2.2.2.2.2.2.2.1)) 0)
  1)), ())) else M.bind (c_parts_task_holdersIO (List.getD σ.2.1 (Int.toNat σ.2.2.2.1) 0, σ.2.2.2.2.1, σ.2.2.2.2.2.1, σ.2.2.2.2.2.2.1, ())) fun y =>
  M.req True (M.req (0 ≤ List.getD σ.2.1 (Int.toNat σ.2.2.2.1) 0 ∧ List.getD σ.2.1 (Int.toNat σ.2.2.2.1) 0 < Int.ofNat (List.length y.2.2.1)) (if
  decide (Int.ofNat (List.length y.1) < List.getD y.2.2.1 (Int.toNat (List.getD σ.2.1 (Int.toNat σ.2.2.2.1) 0)) 0) = true then M.req True (M.req (0 ≤
  σ.1 ∧ σ.1 < Int.ofNat (List.length y.2.2.2.1)) (M.bind (M.bind (M.bind (M.pure (true, y.2.1, y.2.2.1, List.set y.2.2.2.1 (Int.toNat σ.1) (List.getD
  σ.2.1 (Int.toNat σ.2.2.2.1) 0), msetI σ.2.2.2.2.2.2.2.1 (List.getD σ.2.1 (Int.toNat σ.2.2.2.1) 0) (IntKind.wrap .i64 (Add.add (Option.getD
  (Option.map (fun x => x.2) (List.find? (fun p => decide (List.getD σ.2.1 (Int.toNat σ.2.2.2.1) 0 = p.1)) σ.2.2.2.2.2.2.2.1)) 0) 1)), ())) fun r =>
  M.pure (Step.done r)) fun r => M.pure (Step.done r)) fun r => M.pure (Step.done r))) else M.loop (fun (σ : Int × Int × List Int × Int × Int × Int ×
  Int × List Int × List (List Int) × List Int × List Int × List (Int × Int) × Unit) => if decide (σ.2.2.2.2.2.2.1 < σ.2.2.2.2.2.1) = true then M.req (0
  ≤ σ.2.2.2.2.2.2.1 ∧ σ.2.2.2.2.2.2.1 < Int.ofNat (List.length σ.2.2.2.2.2.2.2.1)) (M.bind (c_parts_task_give (List.getD σ.2.2.2.2.2.2.2.1 (Int.toNat
  σ.2.2.2.2.2.2.1) 0, σ.2.2.2.2.2.2.2.2.1, σ.2.2.2.2.2.2.2.2.2.1, σ.2.2.2.2.2.2.2.2.2.2.1, σ.2.2.2.2.2.2.2.2.2.2.2.1, ())) fun y => if y.1 = true then
  M.req True (M.req (0 ≤ σ.1 ∧ σ.1 < Int.ofNat (List.length y.2.2.2.1)) (M.bind (M.bind (M.bind (M.bind (M.pure (true, y.2.1, y.2.2.1, List.set
  y.2.2.2.1 (Int.toNat σ.1) σ.2.1, y.2.2.2.2.1, ())) fun r => M.pure (Step.done r)) fun r => M.pure (Step.done r)) fun r => M.pure (Step.done r)) fun r
  => M.pure (Step.done r))) else M.pure (Step.next (σ.1, σ.2.1, σ.2.2.1, σ.2.2.2.1, σ.2.2.2.2.1, σ.2.2.2.2.2.1, IntKind.wrap .i64 (Add.add
  σ.2.2.2.2.2.2.1 1), σ.2.2.2.2.2.2.2.1, y.2.1, y.2.2.1, y.2.2.2.1, y.2.2.2.2.1, ()))) else M.bind (M.pure (Step.next (σ.1, σ.2.2.1, σ.2.2.2.1,
  σ.2.2.2.2.1, σ.2.2.2.2.2.2.2.2.1, σ.2.2.2.2.2.2.2.2.2.1, σ.2.2.2.2.2.2.2.2.2.2.1, σ.2.2.2.2.2.2.2.2.2.2.2.1, ()))) fun r => M.pure (Step.done r))
  (σ.1, List.getD σ.2.1 (Int.toNat σ.2.2.2.1) 0, σ.2.1, σ.2.2.1, σ.2.2.2.1, Int.ofNat (List.length y.1), 0, y.1, y.2.1, y.2.2.1, y.2.2.2.1, msetI
  σ.2.2.2.2.2.2.2.1 (List.getD σ.2.1 (Int.toNat σ.2.2.2.1) 0) (IntKind.wrap .i64 (Add.add (Option.getD (Option.map (fun x => x.2) (List.find? (fun p =>
  decide (List.getD σ.2.1 (Int.toNat σ.2.2.2.1) 0 = p.1)) σ.2.2.2.2.2.2.2.1)) 0) 1)), ()))))) (Step.go fun (σ : Int × List Int × Int × Int × List (List
  Int) × List Int × List Int × List (Int × Int) × Unit) => M.pure (Step.next (σ.1, σ.2.1, σ.2.2.1, IntKind.wrap .i64 (Add.add σ.2.2.2.1 1),
  σ.2.2.2.2.1, σ.2.2.2.2.2.1, σ.2.2.2.2.2.2.1, σ.2.2.2.2.2.2.2.1, ()))) else M.bind (M.pure (Step.next (σ.2.2.2.2.1, σ.2.2.2.2.2.1, σ.2.2.2.2.2.2.1,
  σ.2.2.2.2.2.2.2.1, ()))) fun r => M.pure (Step.done r)) (x.1, List.getD x.2.1 (Int.toNat x.1) [], Int.ofNat (List.length (List.getD x.2.1 (Int.toNat
  x.1) [])), 0, x.2.1, x.2.2.1, x.2.2.2.1, x.2.2.2.2.1, ())))) (Step.go fun (σ : List (List Int) × List Int × List Int × List (Int × Int) × Unit) =>
  M.pure (false, σ.1, σ.2.1, σ.2.2.1, σ.2.2.2.1, ()))
noncomputable def S_parts_task_holdersV  (x : Option (List (List Int) × List Int × List Int) × Int × Unit) : M (List Int × Unit) :=
  M.bind (M.req (Option.isSome x.1 = true) (M.loop (fun (σ : Int × List Int × Int × Int × List Int × Unit) => if decide (σ.2.2.2.1 < σ.2.2.1) = true
  then M.bind (M.req (0 ≤ σ.2.2.2.1 ∧ σ.2.2.2.1 < Int.ofNat (List.length σ.2.1)) (if decide (List.getD σ.2.1 (Int.toNat σ.2.2.2.1) 0 = σ.1) = true then
  M.req (lenLe (Add.add (List.length σ.2.2.2.2.1) (Add.add 0 1))) (M.pure (Step.next (σ.1, σ.2.1, σ.2.2.1, σ.2.2.2.1, σ.2.2.2.2.1 ++ [σ.2.2.2.1], ())))
  else M.pure (Step.next (σ.1, σ.2.1, σ.2.2.1, σ.2.2.2.1, σ.2.2.2.2.1, ())))) (Step.go fun (σ : Int × List Int × Int × Int × List Int × Unit) => M.pure
  (Step.next (σ.1, σ.2.1, σ.2.2.1, IntKind.wrap .i64 (Add.add σ.2.2.2.1 1), σ.2.2.2.2.1, ()))) else M.bind (M.pure (Step.next (σ.2.2.2.2.1, ()))) fun r
  => M.pure (Step.done r)) (x.2.1, (Option.getD x.1 ([], [], [])).2.2, Int.ofNat (List.length (Option.getD x.1 ([], [], [])).2.2), 0, [], ())))
  (Step.go fun (σ : List Int × Unit) => M.pure (σ.1, ()))
noncomputable def S_parts_task_holdersIO  (x : Int × List (List Int) × List Int × List Int × Unit) : M (List Int × List (List Int) × List Int × List Int × Unit) :=
  M.bind (M.req True (M.loop (fun (σ : Int × Int × Int × List Int × List (List Int) × List Int × List Int × Unit) => if decide (σ.2.2.1 < σ.2.1) = true
  then M.bind (M.req (0 ≤ σ.2.2.1 ∧ σ.2.2.1 < Int.ofNat (List.length σ.2.2.2.2.2.2.1)) (if decide (List.getD σ.2.2.2.2.2.2.1 (Int.toNat σ.2.2.1) 0 =
  σ.1) = true then M.req (lenLe (Add.add (List.length σ.2.2.2.1) (Add.add 0 1))) (M.pure (Step.next (σ.1, σ.2.1, σ.2.2.1, σ.2.2.2.1 ++ [σ.2.2.1],
  σ.2.2.2.2.1, σ.2.2.2.2.2.1, σ.2.2.2.2.2.2.1, ()))) else M.pure (Step.next (σ.1, σ.2.1, σ.2.2.1, σ.2.2.2.1, σ.2.2.2.2.1, σ.2.2.2.2.2.1,
  σ.2.2.2.2.2.2.1, ())))) (Step.go fun (σ : Int × Int × Int × List Int × List (List Int) × List Int × List Int × Unit) => M.pure (Step.next (σ.1,
  σ.2.1, IntKind.wrap .i64 (Add.add σ.2.2.1 1), σ.2.2.2.1, σ.2.2.2.2.1, σ.2.2.2.2.2.1, σ.2.2.2.2.2.2.1, ()))) else M.bind (M.pure (Step.next
  (σ.2.2.2.1, σ.2.2.2.2.1, σ.2.2.2.2.2.1, σ.2.2.2.2.2.2.1, ()))) fun r => M.pure (Step.done r)) (x.1, Int.ofNat (List.length x.2.2.2.1), 0, [], x.2.1,
  x.2.2.1, x.2.2.2.1, ()))) (Step.go fun (σ : List Int × List (List Int) × List Int × List Int × Unit) => M.pure (σ.1, σ.2.1, σ.2.2.1, σ.2.2.2.1, ()))
noncomputable def S_parts_shop_lists (c_math_bits_OnesCount : Int → M Int) (c_parts_list : Int → M (List Int)) (c_parts_shop_mends : Option Shp × List Int × Int → M Int) (x : Option Shp × Nat × (Nat × List Int × Nat × Bool) × Unit) : M ((Nat × List Int × Nat × Bool) × Unit) :=
  M.req (Option.isSome x.1 = true) (M.loop (fun (σ : Option Shp × Nat × Int × Int × (Nat × List Int × Nat × Bool) × Unit) => if decide (σ.2.2.2.1 <
  σ.2.2.1) = true then M.bind (M.req (Option.isSome σ.1 = true) (M.req (0 ≤ Int.ofNat (List.length (Option.getD σ.1 (([], [], 0, []), [])).1.1))
  (M.loop (fun (σ : Option Shp × Nat × Int × Int × Int × Int × Int × (Nat × List Int × Nat × Bool) × Unit) => if decide (σ.2.2.2.2.2.2.1 <
  σ.2.2.2.2.2.1) = true then M.bind (M.bind (c_math_bits_OnesCount σ.2.2.2.2.2.2.1) fun y => if decide (y ≠ σ.2.2.1) = true then M.pure (Step.next
  (σ.1, σ.2.1, σ.2.2.1, σ.2.2.2.1, σ.2.2.2.2.1, σ.2.2.2.2.2.1, σ.2.2.2.2.2.2.1, σ.2.2.2.2.2.2.2.1, ())) else M.bind (M.req (Option.isSome σ.1 = true)
  (M.loop (fun (σ : Option Shp × Nat × Int × Int × Int × Int × Int × Int × Int × Int × (Nat × List Int × Nat × Bool) × Unit) => if decide
  (σ.2.2.2.2.2.2.2.2.2.1 < σ.2.2.2.2.2.2.2.2.1) = true then M.bind (c_parts_list σ.2.2.2.1) fun y => M.bind (c_parts_shop_mends (σ.1, y,
  σ.2.2.2.2.2.2.2.2.2.1)) fun y => if decide (y ≠ 1) = true then M.bind (M.bind (M.pure (Step.next (σ.1, σ.2.1, σ.2.2.1, σ.2.2.2.2.1, σ.2.2.2.2.2.1,
  σ.2.2.2.2.2.2.1, σ.2.2.2.2.2.2.2.1, σ.2.2.2.2.2.2.2.2.2.2.1, ()))) fun r => M.pure (Step.done r)) fun r => M.pure (Step.done r) else M.pure
  (Step.next (σ.1, σ.2.1, σ.2.2.1, σ.2.2.2.1, σ.2.2.2.2.1, σ.2.2.2.2.2.1, σ.2.2.2.2.2.2.1, σ.2.2.2.2.2.2.2.1, σ.2.2.2.2.2.2.2.2.1, IntKind.wrap .i64
  (Add.add σ.2.2.2.2.2.2.2.2.2.1 1), σ.2.2.2.2.2.2.2.2.2.2.1, ())) else M.bind (M.pure (Step.next (σ.1, σ.2.1, σ.2.2.1, σ.2.2.2.1, σ.2.2.2.2.1,
  σ.2.2.2.2.2.1, σ.2.2.2.2.2.2.1, σ.2.2.2.2.2.2.2.1, σ.2.2.2.2.2.2.2.2.2.2.1, ()))) fun r => M.pure (Step.done r)) (σ.1, σ.2.1, σ.2.2.1,
  σ.2.2.2.2.2.2.1, σ.2.2.2.1, σ.2.2.2.2.1, σ.2.2.2.2.2.1, σ.2.2.2.2.2.2.1, Int.ofNat (List.length (Option.getD σ.1 (([], [], 0, []), [])).1.2.1), 0,
  σ.2.2.2.2.2.2.2.1, ()))) (Step.go fun (σ : Option Shp × Nat × Int × Int × Int × Int × Int × Int × (Nat × List Int × Nat × Bool) × Unit) => M.bind
  (M.req (σ.2.1 = σ.2.2.2.2.2.2.2.2.1.1 ∧ σ.2.2.2.2.2.2.2.2.1.2.2.2 = false ∧ List.get?Internal σ.2.2.2.2.2.2.2.2.1.2.1 σ.2.2.2.2.2.2.2.2.1.2.2.1 =
  some σ.2.2.2.1) (M.any fun x => True)) fun y => if (!y) = true then M.bind (M.bind (M.bind (M.bind (M.pure ((σ.2.2.2.2.2.2.2.2.1.1,
  σ.2.2.2.2.2.2.2.2.1.2.1, Add.add σ.2.2.2.2.2.2.2.2.1.2.2.1 1, !y), ())) fun r => M.pure (Step.done r)) fun r => M.pure (Step.done r)) fun r => M.pure
  (Step.done r)) fun r => M.pure (Step.done r) else M.pure (Step.next (σ.1, σ.2.1, σ.2.2.1, σ.2.2.2.2.1, σ.2.2.2.2.2.1, σ.2.2.2.2.2.2.1,
  σ.2.2.2.2.2.2.2.1, (σ.2.2.2.2.2.2.2.2.1.1, σ.2.2.2.2.2.2.2.2.1.2.1, Add.add σ.2.2.2.2.2.2.2.2.1.2.2.1 1, !y), ())))) (Step.go fun (σ : Option Shp ×
  Nat × Int × Int × Int × Int × Int × (Nat × List Int × Nat × Bool) × Unit) => M.pure (Step.next (σ.1, σ.2.1, σ.2.2.1, σ.2.2.2.1, σ.2.2.2.2.1,
  σ.2.2.2.2.2.1, IntKind.wrap .u64 (Add.add σ.2.2.2.2.2.2.1 1), σ.2.2.2.2.2.2.2.1, ()))) else M.bind (M.pure (Step.next (σ.1, σ.2.1, σ.2.2.2.1,
  σ.2.2.2.2.1, σ.2.2.2.2.2.2.2.1, ()))) fun r => M.pure (Step.done r)) (σ.1, σ.2.1, σ.2.2.2.1, σ.2.2.1, σ.2.2.2.1, ishl .u64 1 (Int.ofNat (List.length
  (Option.getD σ.1 (([], [], 0, []), [])).1.1)), 0, σ.2.2.2.2.1, ())))) (Step.go fun (σ : Option Shp × Nat × Int × Int × (Nat × List Int × Nat × Bool)
  × Unit) => M.pure (Step.next (σ.1, σ.2.1, σ.2.2.1, IntKind.wrap .i64 (Add.add σ.2.2.2.1 1), σ.2.2.2.2.1, ()))) else M.bind (M.pure (σ.2.2.2.2.1, ()))
  fun r => M.pure (Step.done r)) (x.1, x.2.1, IntKind.wrap .i64 (Add.add (Int.ofNat (List.length (Option.getD x.1 (([], [], 0, []), [])).1.1)) 1), 0,
  x.2.2.1, ()))
end Go.Fer
namespace Go.Fer
open M (Step)
set_option linter.unusedVariables false
noncomputable def S_law07_PartsLess (c_law07_ready : List (Int × Int × Int × Int) × List (List (Int × List Int × Int × Int)) × Int × List (Int × Int × Int × Int) → M Bool) (c_law07_works : Unit → M Bool) (c_parts_Fewest : List (Int × Int × Int × Int) × List (List (Int × List Int × Int × Int)) × Int × List (Int × Int × Int × Int) → M (Int × Int)) (c_parts_Needed : List (Int × Int × Int × Int) × List (List (Int × List Int × Int × Int)) × Int × List (Int × Int × Int × Int) → M (List Int × Int)) (c_ref07_CopyIO : Wsh × Unit → M (Int × List (Int × Int × Int × Int) × List (Int × Int × Int × Int) × List (List (Int × List Int × Int × Int)) × Unit)) (c_ref07_In : List Int × Int → M Bool) (x : Wsh × Int × Int × Int × Int) : M Bool :=
  M.bind (c_law07_ready x.1) fun y => if (!y || decide (Int.ofNat (List.length x.1.1) > 5)) = true then M.bind (c_law07_works ()) fun y => M.pure y
  else M.bind (c_parts_Fewest x.1) fun y => M.bind (c_parts_Needed x.1) fun y_1 => if (decide (y.2 ≠ y_1.2) || decide (y.2 ≠ 0) && decide (y.2 ≠ 3)) =
  true then M.pure false else M.bind (c_ref07_CopyIO (x.1, ())) fun y_2 => M.req (lenLe (Add.add (List.length y_2.2.1) (Add.add 0 1))) (M.bind (M.bind
  (c_law07_ready (y_2.2.1 ++ [x.2], y_2.2.2.2.1, y_2.1, y_2.2.2.1)) fun y_3 => if y_3 = true then M.bind (c_parts_Fewest (y_2.2.1 ++ [x.2],
  y_2.2.2.2.1, y_2.1, y_2.2.2.1)) fun y_4 => if (decide (y.2 = 0) && (decide (y_4.2 ≠ 0) || decide (y_4.1 > y.1)) || decide (y_4.2 ≠ 0) && decide
  (y_4.2 ≠ 3)) = true then M.bind (M.pure false) fun r => M.pure (Step.done r) else M.pure (Step.next (y.1, y.2, y_1.1, x.1, ())) else M.pure
  (Step.next (y.1, y.2, y_1.1, x.1, ()))) (Step.go fun (σ : Int × Int × List Int × Wsh × Unit) => M.bind (c_ref07_CopyIO (σ.2.2.2.1, ())) fun y =>
  M.bind (if decide (Int.ofNat (List.length y.2.2.2.1) > 0) = true then M.req ((0 : Int) ≤ 0 ∧ 0 ≤ IntKind.wrap .i64 (Int.ofNat (List.length y.2.2.2.1)
  - 1) ∧ IntKind.wrap .i64 (Int.ofNat (List.length y.2.2.2.1) - 1) ≤ Int.ofNat (List.length y.2.2.2.1)) (M.bind (c_law07_ready (y.2.1, List.take
  (Int.toNat (IntKind.wrap .i64 (Int.ofNat (List.length y.2.2.2.1) - 1))) y.2.2.2.1, y.1, y.2.2.1)) fun y_3 => if y_3 = true then M.bind
  (c_parts_Fewest (y.2.1, List.take (Int.toNat (IntKind.wrap .i64 (Int.ofNat (List.length y.2.2.2.1) - 1))) y.2.2.2.1, y.1, y.2.2.1)) fun y => if
  (decide (σ.2.1 = 0) && (decide (y.2 ≠ 0) || decide (y.1 > σ.1)) || decide (y.2 ≠ 0) && decide (y.2 ≠ 3)) = true then M.bind (M.pure false) fun r =>
  M.pure (Step.done r) else M.pure (Step.next (σ.1, σ.2.1, σ.2.2.1, σ.2.2.2.1, ())) else M.pure (Step.next (σ.1, σ.2.1, σ.2.2.1, σ.2.2.2.1, ()))) else
  M.pure (Step.next (σ.1, σ.2.1, σ.2.2.1, σ.2.2.2.1, ()))) (Step.go fun (σ : Int × Int × List Int × Wsh × Unit) => M.bind (c_ref07_CopyIO (σ.2.2.2.1,
  ())) fun y => if decide (Int.ofNat (List.length y.2.1) = 0) = true then M.bind (c_law07_works ()) fun y => M.pure y else M.req ((0 : Int) ≤ 0 ∧ 0 ≤
  IntKind.wrap .i64 (Int.ofNat (List.length y.2.1) - 1) ∧ IntKind.wrap .i64 (Int.ofNat (List.length y.2.1) - 1) ≤ Int.ofNat (List.length y.2.1))
  (M.bind (c_law07_ready (List.take (Int.toNat (IntKind.wrap .i64 (Int.ofNat (List.length y.2.1) - 1))) y.2.1, y.2.2.2.1, y.1, y.2.2.1)) fun y_3 => if
  (!y_3) = true then M.bind (c_law07_works ()) fun y => M.pure y else M.bind (c_parts_Fewest (List.take (Int.toNat (IntKind.wrap .i64 (Int.ofNat
  (List.length y.2.1) - 1))) y.2.1, y.2.2.2.1, y.1, y.2.2.1)) fun y_4 => if (decide (y_4.2 ≠ 0) && decide (y_4.2 ≠ 3) || decide (y_4.2 = 0) && (decide
  (σ.2.1 ≠ 0) || decide (y_4.1 < σ.1))) = true then M.pure false else M.bind (gdo (!decide (σ.2.1 ≠ 0)) (c_ref07_In (σ.2.2.1, IntKind.wrap .i64
  (Int.ofNat (List.length y.2.1) - 1))) false) fun y => M.bind (gdo (decide (σ.2.1 ≠ 0) || decide (y = (decide (y_4.2 ≠ 0) || decide (y_4.1 > σ.1))))
  (c_law07_works ()) false) fun y_5 => M.pure ((decide (σ.2.1 ≠ 0) || decide (y = (decide (y_4.2 ≠ 0) || decide (y_4.1 > σ.1)))) && y_5)))))
noncomputable def S_law07_PartsStock (c_law07_ready : List (Int × Int × Int × Int) × List (List (Int × List Int × Int × Int)) × Int × List (Int × Int × Int × Int) → M Bool) (c_law07_works : Unit → M Bool) (c_parts_Needed : List (Int × Int × Int × Int) × List (List (Int × List Int × Int × Int)) × Int × List (Int × Int × Int × Int) → M (List Int × Int)) (c_ref07_CopyIO : Wsh × Unit → M (Int × List (Int × Int × Int × Int) × List (Int × Int × Int × Int) × List (List (Int × List Int × Int × Int)) × Unit)) (c_ref07_IsTask : Wsh × List Int × List (Int × Int) → M Bool) (c_ref07_IsSpare : Wsh × Int → M Bool) (c_parts_Most : Wsh × List Int × List (Int × Int) → M (Int × Int)) (c_ref07_IsSlotOf : Wsh × Int × Int → M Bool) (c_law07_sameInts : List Int × List Int → M Bool) (x : Wsh × (List Int × List (Int × Int)) × Int × (Int × Int) × Int) : M Bool :=
  M.bind (c_law07_ready x.1) fun y => M.bind (gdo (!(!y || decide (Int.ofNat (List.length x.2.1.1) > 40) || decide (Int.ofNat (List.length x.2.1.2) >
  9))) (c_ref07_IsTask (x.1, x.2.1)) false) fun y_1 => M.bind (gdo (!(!y || decide (Int.ofNat (List.length x.2.1.1) > 40) || decide (Int.ofNat
  (List.length x.2.1.2) > 9) || !y_1)) (c_ref07_IsSpare (x.1, x.2.2.1)) false) fun y_2 => if (!y || decide (Int.ofNat (List.length x.2.1.1) > 40) ||
  decide (Int.ofNat (List.length x.2.1.2) > 9) || !y_1 || !y_2 || decide (x.2.2.2.2 < 0) || decide (x.2.2.2.2 > 100)) = true then M.bind (c_law07_works
  ()) fun y => M.pure y else M.bind (c_parts_Most (x.1, x.2.1)) fun y => if decide (y.2 ≠ 0) = true then M.pure false else M.req (lenLe (Add.add 0
  (List.length x.2.1.1))) (M.req (0 ≤ x.2.2.1 ∧ x.2.2.1 < Int.ofNat (List.length ([] ++ x.2.1.1))) (M.req (0 ≤ x.2.2.1 ∧ x.2.2.1 < Int.ofNat
  (List.length ([] ++ x.2.1.1))) (M.bind (c_parts_Most (x.1, List.set ([] ++ x.2.1.1) (Int.toNat x.2.2.1) (if IntKind.wrap .i64 (Add.add (List.getD ([]
  ++ x.2.1.1) (Int.toNat x.2.2.1) 0) 1) < 10 then IntKind.wrap .i64 (Add.add (List.getD ([] ++ x.2.1.1) (Int.toNat x.2.2.1) 0) 1) else 10), x.2.1.2))
  fun y_3 => if (decide (y_3.2 ≠ 0) || decide (y_3.1 < y.1) || decide (y_3.1 > IntKind.wrap .i64 (Add.add y.1 1))) = true then M.pure false else M.bind
  (M.bind (c_ref07_IsSlotOf (x.1, x.2.2.2.1)) fun y_4 => if y_4 = true then M.req (lenLe (Add.add 0 (List.length x.2.1.2))) (M.req (lenLe (Add.add
  (List.length ([] ++ x.2.1.2)) (Add.add 0 1))) (M.req (c_parts_Most (x.1, x.2.1.1, [] ++ x.2.1.2 ++ [x.2.2.2.1])).safe (if (decide ((M.val
  (c_parts_Most (x.1, x.2.1.1, [] ++ x.2.1.2 ++ [x.2.2.2.1])) (0, 0)).2 ≠ 0) || decide ((M.val (c_parts_Most (x.1, x.2.1.1, [] ++ x.2.1.2 ++
  [x.2.2.2.1])) (0, 0)).1 < y.1) || decide ((M.val (c_parts_Most (x.1, x.2.1.1, [] ++ x.2.1.2 ++ [x.2.2.2.1])) (0, 0)).1 > IntKind.wrap .i64 (Add.add
  y.1 1))) = true then M.bind (M.pure false) fun r => M.pure (Step.done r) else M.pure (Step.next (y.1, x.1, x.2.1, x.2.2, ()))))) else M.pure
  (Step.next (y.1, x.1, x.2.1, x.2.2, ()))) (Step.go fun (σ : Int × Wsh × (List Int × List (Int × Int)) × (Int × (Int × Int) × Int) × Unit) => M.bind
  (c_ref07_CopyIO (σ.2.1, ())) fun y => M.bind (M.loop (fun (σ : Int × Int × Wsh × (List Int × List (Int × Int)) × (Int × (Int × Int) × Int) × Int ×
  List (Int × Int) × List (Int × Int × Int × Int) × List (Int × Int × Int × Int) × List (List (Int × List Int × Int × Int)) × Unit) => if decide (σ.2.1
  < Int.ofNat (List.length σ.2.2.2.1.2)) = true then M.req (Int.ofNat (List.length σ.2.2.2.1.2) ≠ 0) (M.req (0 ≤ Int.tmod (IntKind.wrap .i64 (Add.add
  σ.2.1 σ.2.2.2.2.1.2.2)) (Int.ofNat (List.length σ.2.2.2.1.2)) ∧ Int.tmod (IntKind.wrap .i64 (Add.add σ.2.1 σ.2.2.2.2.1.2.2)) (Int.ofNat (List.length
  σ.2.2.2.1.2)) < Int.ofNat (List.length σ.2.2.2.1.2)) (M.req (lenLe (Add.add (List.length σ.2.2.2.2.2.2.1) (Add.add 0 1))) (M.pure (Step.next (σ.1,
  IntKind.wrap .i64 (Add.add σ.2.1 1), σ.2.2.1, σ.2.2.2.1, σ.2.2.2.2.1, σ.2.2.2.2.2.1, σ.2.2.2.2.2.2.1 ++ [List.getD σ.2.2.2.1.2 (Int.toNat (Int.tmod
  (IntKind.wrap .i64 (Add.add σ.2.1 σ.2.2.2.2.1.2.2)) (Int.ofNat (List.length σ.2.2.2.1.2)))) (0, 0)], σ.2.2.2.2.2.2.2.1, σ.2.2.2.2.2.2.2.2.1,
  σ.2.2.2.2.2.2.2.2.2.1, ()))))) else M.bind (M.pure (Step.next (σ.1, σ.2.2.1, σ.2.2.2.1, σ.2.2.2.2.1, σ.2.2.2.2.2.1, σ.2.2.2.2.2.2.1,
  σ.2.2.2.2.2.2.2.1, σ.2.2.2.2.2.2.2.2.1, σ.2.2.2.2.2.2.2.2.2.1, ()))) fun r => M.pure (Step.done r)) (σ.1, 0, σ.2.1, σ.2.2.1, σ.2.2.2.1, y.1, [],
  y.2.1, y.2.2.1, y.2.2.2.1, ())) (Step.go fun (σ : Int × Wsh × (List Int × List (Int × Int)) × (Int × (Int × Int) × Int) × Int × List (Int × Int) ×
  List (Int × Int × Int × Int) × List (Int × Int × Int × Int) × List (List (Int × List Int × Int × Int)) × Unit) => M.bind (M.loop (fun (σ : Int × Int
  × Wsh × (List Int × List (Int × Int)) × (Int × (Int × Int) × Int) × Int × List (Int × Int) × List (Int × Int × Int × Int) × List (Int × Int × Int ×
  Int) × List (List (Int × List Int × Int × Int)) × Unit) => if decide (σ.2.1 < Int.ofNat (List.length σ.2.2.1.2.2.2)) = true then M.req (Int.ofNat
  (List.length σ.2.2.1.2.2.2) ≠ 0) (M.req (0 ≤ Int.tmod (IntKind.wrap .i64 (Add.add σ.2.1 σ.2.2.2.2.1.2.2)) (Int.ofNat (List.length σ.2.2.1.2.2.2)) ∧
  Int.tmod (IntKind.wrap .i64 (Add.add σ.2.1 σ.2.2.2.2.1.2.2)) (Int.ofNat (List.length σ.2.2.1.2.2.2)) < Int.ofNat (List.length σ.2.2.1.2.2.2)) (M.req
  (0 ≤ σ.2.1 ∧ σ.2.1 < Int.ofNat (List.length σ.2.2.2.2.2.2.2.2.1)) (M.pure (Step.next (σ.1, IntKind.wrap .i64 (Add.add σ.2.1 1), σ.2.2.1, σ.2.2.2.1,
  σ.2.2.2.2.1, σ.2.2.2.2.2.1, σ.2.2.2.2.2.2.1, σ.2.2.2.2.2.2.2.1, List.set σ.2.2.2.2.2.2.2.2.1 (Int.toNat σ.2.1) (List.getD σ.2.2.1.2.2.2 (Int.toNat
  (Int.tmod (IntKind.wrap .i64 (Add.add σ.2.1 σ.2.2.2.2.1.2.2)) (Int.ofNat (List.length σ.2.2.1.2.2.2)))) (0, 0, 0, 0)), σ.2.2.2.2.2.2.2.2.2.1, ())))))
  else M.bind (M.pure (Step.next (σ.1, σ.2.2.1, σ.2.2.2.1, σ.2.2.2.2.2.1, σ.2.2.2.2.2.2.1, σ.2.2.2.2.2.2.2.1, σ.2.2.2.2.2.2.2.2.1,
  σ.2.2.2.2.2.2.2.2.2.1, ()))) fun r => M.pure (Step.done r)) (σ.1, 0, σ.2.1, σ.2.2.1, σ.2.2.2.1, σ.2.2.2.2.1, σ.2.2.2.2.2.1, σ.2.2.2.2.2.2.1,
  σ.2.2.2.2.2.2.2.1, σ.2.2.2.2.2.2.2.2.1, ())) (Step.go fun (σ : Int × Wsh × (List Int × List (Int × Int)) × Int × List (Int × Int) × List (Int × Int ×
  Int × Int) × List (Int × Int × Int × Int) × List (List (Int × List Int × Int × Int)) × Unit) => M.bind (c_parts_Most ((σ.2.2.2.2.2.1,
  σ.2.2.2.2.2.2.2.1, σ.2.2.2.1, σ.2.2.2.2.2.2.1), σ.2.2.1.1, σ.2.2.2.2.1)) fun y => M.bind (c_parts_Needed σ.2.1) fun y_4 => M.bind (c_parts_Needed
  (σ.2.2.2.2.2.1, σ.2.2.2.2.2.2.2.1, σ.2.2.2.1, σ.2.2.2.2.2.2.1)) fun y_5 => M.bind (gdo (decide (y.2 = 0) && decide (y.1 = σ.1) && decide (y_4.2 =
  y_5.2)) (c_law07_sameInts (y_4.1, y_5.1)) false) fun y_6 => M.bind (gdo (decide (y.2 = 0) && decide (y.1 = σ.1) && decide (y_4.2 = y_5.2) && y_6)
  (c_law07_works ()) false) fun y_7 => M.pure (decide (y.2 = 0) && decide (y.1 = σ.1) && decide (y_4.2 = y_5.2) && y_6 && y_7)))))))
noncomputable def S_law07_PartsFits (c_law07_works : Unit → M Bool) (c_ref07_Copy : List (Int × Int × Int × Int) × List (List (Int × List Int × Int × Int)) × Int × List (Int × Int × Int × Int) → M Wsh) (c_law07_Far : List (Int × Int × Int × Int) × List (List (Int × List Int × Int × Int)) × Int × List (Int × Int × Int × Int) → M Bool) (c_parts_Check : List (Int × Int × Int × Int) × List (List (Int × List Int × Int × Int)) × Int × List (Int × Int × Int × Int) → M Int) (c_ref07_Check : List (Int × Int × Int × Int) × List (List (Int × List Int × Int × Int)) × Int × List (Int × Int × Int × Int) → M Int) (c_parts_Length : Wsh × Int → M ((Int × Int) × Int)) (c_ref07_Length : Wsh × Int → M ((Int × Int) × Int)) (c_parts_Fits : Wsh × Int × Int × Int → M (Int × Int)) (c_ref07_Fits : Wsh × Int × Int × Int → M (Int × Int)) (c_law07_same : Wsh × Wsh → M Bool) (x : Wsh × Int × Int × Int) : M Bool :=
  M.bind (c_law07_Far x.1) fun y => if y = true then M.bind (c_law07_works ()) fun y => M.pure y else M.bind (c_ref07_Copy x.1) fun y => M.req
  (c_parts_Check y).safe (M.req (c_ref07_Check x.1).safe (if decide (M.val (c_parts_Check y) 0 ≠ M.val (c_ref07_Check x.1) 0) = true then M.pure false
  else M.bind (c_parts_Length (y, x.2.1)) fun y_1 => M.bind (c_ref07_Length (x.1, x.2.1)) fun y_2 => M.bind (c_parts_Fits (y, x.2)) fun y_3 => M.bind
  (c_ref07_Fits x) fun y_4 => M.bind (gdo (decide (y_1.1.1 = y_2.1.1) && decide (y_1.1.2 = y_2.1.2) && decide (y_1.2 = y_2.2) && decide (y_3.1 = y_4.1)
  && decide (y_3.2 = y_4.2)) (c_law07_same (y, x.1)) false) fun y => M.bind (gdo (decide (y_1.1.1 = y_2.1.1) && decide (y_1.1.2 = y_2.1.2) && decide
  (y_1.2 = y_2.2) && decide (y_3.1 = y_4.1) && decide (y_3.2 = y_4.2) && y) (c_law07_works ()) false) fun y_5 => M.pure (decide (y_1.1.1 = y_2.1.1) &&
  decide (y_1.1.2 = y_2.1.2) && decide (y_1.2 = y_2.2) && decide (y_3.1 = y_4.1) && decide (y_3.2 = y_4.2) && y && y_5)))
noncomputable def S_law07_PartsFewest (c_law07_works : Unit → M Bool) (c_parts_Fewest : List (Int × Int × Int × Int) × List (List (Int × List Int × Int × Int)) × Int × List (Int × Int × Int × Int) → M (Int × Int)) (c_parts_Needed : List (Int × Int × Int × Int) × List (List (Int × List Int × Int × Int)) × Int × List (Int × Int × Int × Int) → M (List Int × Int)) (c_ref07_Copy : List (Int × Int × Int × Int) × List (List (Int × List Int × Int × Int)) × Int × List (Int × Int × Int × Int) → M Wsh) (c_law07_sameInts : List Int × List Int → M Bool) (c_law07_Far : List (Int × Int × Int × Int) × List (List (Int × List Int × Int × Int)) × Int × List (Int × Int × Int × Int) → M Bool) (c_ref07_Fewest : List (Int × Int × Int × Int) × List (List (Int × List Int × Int × Int)) × Int × List (Int × Int × Int × Int) → M (Int × Int)) (c_ref07_Needed : List (Int × Int × Int × Int) × List (List (Int × List Int × Int × Int)) × Int × List (Int × Int × Int × Int) → M (List Int × Int)) (c_parts_Keep : List (Int × Int × Int × Int) × List (List (Int × List Int × Int × Int)) × Int × List (Int × Int × Int × Int) → M (List Int × Int)) (c_ref07_MendsAll : Wsh × List Int → M Bool) (x : List (Int × Int × Int × Int) × List (List (Int × List Int × Int × Int)) × Int × List (Int × Int × Int × Int)) : M Bool :=
  M.bind (c_law07_Far x) fun y => if y = true then M.bind (c_law07_works ()) fun y => M.pure y else M.bind (c_ref07_Copy x) fun y => M.bind
  (c_parts_Fewest y) fun y_1 => M.bind (c_ref07_Fewest x) fun y_2 => M.bind (c_parts_Needed y) fun y_3 => M.bind (c_ref07_Needed x) fun y_4 => M.bind
  (c_parts_Keep y) fun y => M.bind (gdo (!(decide (y_1.1 ≠ y_2.1) || decide (y_1.2 ≠ y_2.2))) (c_law07_sameInts (y_3.1, y_4.1)) false) fun y_5 => if
  (decide (y_1.1 ≠ y_2.1) || decide (y_1.2 ≠ y_2.2) || !y_5 || decide (y_3.2 ≠ y_4.2) || decide (y.2 ≠ y_2.2) || decide (Int.ofNat (List.length y.1) >
  40)) = true then M.pure false else if decide (y_2.2 ≠ 0) = true then M.bind (gdo (decide (Int.ofNat (List.length y.1) = 0)) (c_law07_works ()) false)
  fun y_6 => M.pure (decide (Int.ofNat (List.length y.1) = 0) && y_6) else M.bind (gdo (decide (Int.ofNat (List.length y.1) = y_2.1)) (c_ref07_MendsAll
  (x, y.1)) false) fun y_6 => M.bind (gdo (decide (Int.ofNat (List.length y.1) = y_2.1) && y_6) (c_law07_works ()) false) fun y_7 => M.pure (decide
  (Int.ofNat (List.length y.1) = y_2.1) && y_6 && y_7)
noncomputable def S_law07_PartsMends (c_law07_works : Unit → M Bool) (c_ref07_Copy : List (Int × Int × Int × Int) × List (List (Int × List Int × Int × Int)) × Int × List (Int × Int × Int × Int) → M Wsh) (c_law07_Far : List (Int × Int × Int × Int) × List (List (Int × List Int × Int × Int)) × Int × List (Int × Int × Int × Int) → M Bool) (c_parts_Mends : Wsh × List Int × Int → M (Int × Int)) (c_ref07_Mends : Wsh × List Int × Int → M (Int × Int)) (x : Wsh × List Int × Int) : M Bool :=
  M.bind (c_law07_Far x.1) fun y => if (y || decide (Int.ofNat (List.length x.2.1) > 20)) = true then M.bind (c_law07_works ()) fun y => M.pure y else
  M.bind (c_ref07_Copy x.1) fun y => M.req (lenLe (Add.add 0 (List.length x.2.1))) (M.bind (c_parts_Mends (y, [] ++ x.2.1, x.2.2)) fun y => M.bind
  (c_ref07_Mends x) fun y_1 => M.bind (gdo (decide (y.1 = y_1.1) && decide (y.2 = y_1.2)) (c_law07_works ()) false) fun y_2 => M.pure (decide (y.1 =
  y_1.1) && decide (y.2 = y_1.2) && y_2))
noncomputable def S_law07_PartsTrue (c_law07_ready : List (Int × Int × Int × Int) × List (List (Int × List Int × Int × Int)) × Int × List (Int × Int × Int × Int) → M Bool) (c_law07_works : Unit → M Bool) (c_ref07_IsSpare : Wsh × Int → M Bool) (c_parts_Length : Wsh × Int → M ((Int × Int) × Int)) (c_parts_Fits : Wsh × Int × Int × Int → M (Int × Int)) (c_parts_Mends : Wsh × List Int × Int → M (Int × Int)) (c_ref07_IsTruth : Wsh × List Int → M Bool) (c_law07_isAsk : Wsh × Int × Int × Int → M Bool) (c_ref07_CanBe : Wsh × Int × Int → M Bool) (c_law07_agrees : Int × Bool → M Bool) (c_ref07_FitsAt : Wsh × Int × Int × Int × Int → M Bool) (x : Wsh × (List Int × List Int) × Int × Int × Int) : M Bool :=
  M.bind (c_law07_ready x.1) fun y => M.bind (gdo (!!y) (c_ref07_IsTruth (x.1, x.2.1.1)) false) fun y_1 => M.bind (gdo (!(!y || !y_1)) (c_law07_isAsk
  (x.1, x.2.2)) false) fun y_2 => if (!y || !y_1 || !y_2 || decide (Int.ofNat (List.length x.2.1.2) > 20)) = true then M.bind (c_law07_works ()) fun y
  => M.pure y else M.bind (c_parts_Length (x.1, x.2.2.1)) fun y => M.bind (c_parts_Fits (x.1, x.2.2)) fun y_3 => M.req ((!decide (y.2 ≠ 0)) = true →
  ((!decide (y.2 ≠ 0)) = true ∧ True) ∧ True ∧ True) (M.req (True ∧ (decide (y.2 ≠ 0) = false → (!decide (y.2 ≠ 0)) = true)) (M.req ((!(decide (y.2 ≠
  0) || decide (y_3.2 ≠ 0))) = true → (!(decide (y.2 ≠ 0) || decide (y_3.2 ≠ 0))) = true ∧ True ∧ True) (M.req ((!(decide (y.2 ≠ 0) || decide (y_3.2 ≠
  0))) = true → (!(decide (y.2 ≠ 0) || decide (y_3.2 ≠ 0))) = true ∧ True ∧ True) (M.req ((!(decide (y.2 ≠ 0) || decide (y_3.2 ≠ 0))) = true →
  ((!(decide (y.2 ≠ 0) || decide (y_3.2 ≠ 0))) = true ∧ (!(decide (y.2 ≠ 0) || decide (y_3.2 ≠ 0))) = true) ∧ (0 ≤ x.2.2.1 ∧ x.2.2.1 < Int.ofNat
  (List.length x.2.1.1)) ∧ True) (M.req ((!(decide (y.2 ≠ 0) || decide (y_3.2 ≠ 0))) = true → (!(decide (y.2 ≠ 0) || decide (y_3.2 ≠ 0))) = true ∧ True
  ∧ True) (M.req ((!(decide (y.2 ≠ 0) || decide (y_3.2 ≠ 0))) = true → (!(decide (y.2 ≠ 0) || decide (y_3.2 ≠ 0))) = true ∧ True ∧ True) (M.req
  ((!(decide (y.2 ≠ 0) || decide (y_3.2 ≠ 0))) = true → ((!(decide (y.2 ≠ 0) || decide (y_3.2 ≠ 0))) = true ∧ (!(decide (y.2 ≠ 0) || decide (y_3.2 ≠
  0))) = true) ∧ True ∧ True) (M.req (True ∧ ((decide (y.2 ≠ 0) || decide (y_3.2 ≠ 0)) = false → (!(decide (y.2 ≠ 0) || decide (y_3.2 ≠ 0))) = true))
  (M.req ((!(decide (y.2 ≠ 0) || decide (y_3.2 ≠ 0) || decide (List.getD x.2.1.1 (Int.toNat x.2.2.1) 0 < y.1.1))) = true → (!(decide (y.2 ≠ 0) ||
  decide (y_3.2 ≠ 0) || decide (List.getD x.2.1.1 (Int.toNat x.2.2.1) 0 < y.1.1))) = true ∧ True ∧ True) (M.req ((!(decide (y.2 ≠ 0) || decide (y_3.2 ≠
  0) || decide (List.getD x.2.1.1 (Int.toNat x.2.2.1) 0 < y.1.1))) = true → (!(decide (y.2 ≠ 0) || decide (y_3.2 ≠ 0) || decide (List.getD x.2.1.1
  (Int.toNat x.2.2.1) 0 < y.1.1))) = true ∧ True ∧ True) (M.req ((!(decide (y.2 ≠ 0) || decide (y_3.2 ≠ 0) || decide (List.getD x.2.1.1 (Int.toNat
  x.2.2.1) 0 < y.1.1))) = true → ((!(decide (y.2 ≠ 0) || decide (y_3.2 ≠ 0) || decide (List.getD x.2.1.1 (Int.toNat x.2.2.1) 0 < y.1.1))) = true ∧
  (!(decide (y.2 ≠ 0) || decide (y_3.2 ≠ 0) || decide (List.getD x.2.1.1 (Int.toNat x.2.2.1) 0 < y.1.1))) = true) ∧ (0 ≤ x.2.2.1 ∧ x.2.2.1 < Int.ofNat
  (List.length x.2.1.1)) ∧ True) (M.req ((!(decide (y.2 ≠ 0) || decide (y_3.2 ≠ 0) || decide (List.getD x.2.1.1 (Int.toNat x.2.2.1) 0 < y.1.1))) = true
  → (!(decide (y.2 ≠ 0) || decide (y_3.2 ≠ 0) || decide (List.getD x.2.1.1 (Int.toNat x.2.2.1) 0 < y.1.1))) = true ∧ True ∧ True) (M.req ((!(decide
  (y.2 ≠ 0) || decide (y_3.2 ≠ 0) || decide (List.getD x.2.1.1 (Int.toNat x.2.2.1) 0 < y.1.1))) = true → (!(decide (y.2 ≠ 0) || decide (y_3.2 ≠ 0) ||
  decide (List.getD x.2.1.1 (Int.toNat x.2.2.1) 0 < y.1.1))) = true ∧ True ∧ True) (M.req ((!(decide (y.2 ≠ 0) || decide (y_3.2 ≠ 0) || decide
  (List.getD x.2.1.1 (Int.toNat x.2.2.1) 0 < y.1.1))) = true → ((!(decide (y.2 ≠ 0) || decide (y_3.2 ≠ 0) || decide (List.getD x.2.1.1 (Int.toNat
  x.2.2.1) 0 < y.1.1))) = true ∧ (!(decide (y.2 ≠ 0) || decide (y_3.2 ≠ 0) || decide (List.getD x.2.1.1 (Int.toNat x.2.2.1) 0 < y.1.1))) = true) ∧ True
  ∧ True) (M.req (True ∧ ((decide (y.2 ≠ 0) || decide (y_3.2 ≠ 0) || decide (List.getD x.2.1.1 (Int.toNat x.2.2.1) 0 < y.1.1)) = false → (!(decide (y.2
  ≠ 0) || decide (y_3.2 ≠ 0) || decide (List.getD x.2.1.1 (Int.toNat x.2.2.1) 0 < y.1.1))) = true)) (M.req ((!(decide (y.2 ≠ 0) || decide (y_3.2 ≠ 0)
  || decide (List.getD x.2.1.1 (Int.toNat x.2.2.1) 0 < y.1.1) || decide (List.getD x.2.1.1 (Int.toNat x.2.2.1) 0 > y.1.2))) = true → (!(decide (y.2 ≠
  0) || decide (y_3.2 ≠ 0) || decide (List.getD x.2.1.1 (Int.toNat x.2.2.1) 0 < y.1.1) || decide (List.getD x.2.1.1 (Int.toNat x.2.2.1) 0 > y.1.2))) =
  true ∧ True ∧ True) (M.req ((!(decide (y.2 ≠ 0) || decide (y_3.2 ≠ 0) || decide (List.getD x.2.1.1 (Int.toNat x.2.2.1) 0 < y.1.1) || decide
  (List.getD x.2.1.1 (Int.toNat x.2.2.1) 0 > y.1.2))) = true → (!(decide (y.2 ≠ 0) || decide (y_3.2 ≠ 0) || decide (List.getD x.2.1.1 (Int.toNat
  x.2.2.1) 0 < y.1.1) || decide (List.getD x.2.1.1 (Int.toNat x.2.2.1) 0 > y.1.2))) = true ∧ True ∧ True) (M.req ((!(decide (y.2 ≠ 0) || decide (y_3.2
  ≠ 0) || decide (List.getD x.2.1.1 (Int.toNat x.2.2.1) 0 < y.1.1) || decide (List.getD x.2.1.1 (Int.toNat x.2.2.1) 0 > y.1.2))) = true → ((!(decide
  (y.2 ≠ 0) || decide (y_3.2 ≠ 0) || decide (List.getD x.2.1.1 (Int.toNat x.2.2.1) 0 < y.1.1) || decide (List.getD x.2.1.1 (Int.toNat x.2.2.1) 0 >
  y.1.2))) = true ∧ (!(decide (y.2 ≠ 0) || decide (y_3.2 ≠ 0) || decide (List.getD x.2.1.1 (Int.toNat x.2.2.1) 0 < y.1.1) || decide (List.getD x.2.1.1
  (Int.toNat x.2.2.1) 0 > y.1.2))) = true ∧ (!(decide (y.2 ≠ 0) || decide (y_3.2 ≠ 0) || decide (List.getD x.2.1.1 (Int.toNat x.2.2.1) 0 < y.1.1) ||
  decide (List.getD x.2.1.1 (Int.toNat x.2.2.1) 0 > y.1.2))) = true ∧ True) ∧ (c_ref07_CanBe (x.1, x.2.2.1, y.1.1)).safe ∧ True) (M.req ((!(decide (y.2
  ≠ 0) || decide (y_3.2 ≠ 0) || decide (List.getD x.2.1.1 (Int.toNat x.2.2.1) 0 < y.1.1) || decide (List.getD x.2.1.1 (Int.toNat x.2.2.1) 0 > y.1.2)))
  = true → (!(decide (y.2 ≠ 0) || decide (y_3.2 ≠ 0) || decide (List.getD x.2.1.1 (Int.toNat x.2.2.1) 0 < y.1.1) || decide (List.getD x.2.1.1
  (Int.toNat x.2.2.1) 0 > y.1.2))) = true ∧ True ∧ True) (M.req (True ∧ ((decide (y.2 ≠ 0) || decide (y_3.2 ≠ 0) || decide (List.getD x.2.1.1
  (Int.toNat x.2.2.1) 0 < y.1.1) || decide (List.getD x.2.1.1 (Int.toNat x.2.2.1) 0 > y.1.2)) = false → (!(decide (y.2 ≠ 0) || decide (y_3.2 ≠ 0) ||
  decide (List.getD x.2.1.1 (Int.toNat x.2.2.1) 0 < y.1.1) || decide (List.getD x.2.1.1 (Int.toNat x.2.2.1) 0 > y.1.2))) = true)) (M.req ((!(decide
  (y.2 ≠ 0) || decide (y_3.2 ≠ 0) || decide (List.getD x.2.1.1 (Int.toNat x.2.2.1) 0 < y.1.1) || decide (List.getD x.2.1.1 (Int.toNat x.2.2.1) 0 >
  y.1.2) || !M.val (c_ref07_CanBe (x.1, x.2.2.1, y.1.1)) false)) = true → (!(decide (y.2 ≠ 0) || decide (y_3.2 ≠ 0) || decide (List.getD x.2.1.1
  (Int.toNat x.2.2.1) 0 < y.1.1) || decide (List.getD x.2.1.1 (Int.toNat x.2.2.1) 0 > y.1.2) || !M.val (c_ref07_CanBe (x.1, x.2.2.1, y.1.1)) false)) =
  true ∧ True ∧ True) (M.req ((!(decide (y.2 ≠ 0) || decide (y_3.2 ≠ 0) || decide (List.getD x.2.1.1 (Int.toNat x.2.2.1) 0 < y.1.1) || decide
  (List.getD x.2.1.1 (Int.toNat x.2.2.1) 0 > y.1.2) || !M.val (c_ref07_CanBe (x.1, x.2.2.1, y.1.1)) false)) = true → (!(decide (y.2 ≠ 0) || decide
  (y_3.2 ≠ 0) || decide (List.getD x.2.1.1 (Int.toNat x.2.2.1) 0 < y.1.1) || decide (List.getD x.2.1.1 (Int.toNat x.2.2.1) 0 > y.1.2) || !M.val
  (c_ref07_CanBe (x.1, x.2.2.1, y.1.1)) false)) = true ∧ True ∧ True) (M.req ((!(decide (y.2 ≠ 0) || decide (y_3.2 ≠ 0) || decide (List.getD x.2.1.1
  (Int.toNat x.2.2.1) 0 < y.1.1) || decide (List.getD x.2.1.1 (Int.toNat x.2.2.1) 0 > y.1.2) || !M.val (c_ref07_CanBe (x.1, x.2.2.1, y.1.1)) false)) =
  true → ((!(decide (y.2 ≠ 0) || decide (y_3.2 ≠ 0) || decide (List.getD x.2.1.1 (Int.toNat x.2.2.1) 0 < y.1.1) || decide (List.getD x.2.1.1 (Int.toNat
  x.2.2.1) 0 > y.1.2) || !M.val (c_ref07_CanBe (x.1, x.2.2.1, y.1.1)) false)) = true ∧ (!(decide (y.2 ≠ 0) || decide (y_3.2 ≠ 0) || decide (List.getD
  x.2.1.1 (Int.toNat x.2.2.1) 0 < y.1.1) || decide (List.getD x.2.1.1 (Int.toNat x.2.2.1) 0 > y.1.2) || !M.val (c_ref07_CanBe (x.1, x.2.2.1, y.1.1))
  false)) = true ∧ (!(decide (y.2 ≠ 0) || decide (y_3.2 ≠ 0) || decide (List.getD x.2.1.1 (Int.toNat x.2.2.1) 0 < y.1.1) || decide (List.getD x.2.1.1
  (Int.toNat x.2.2.1) 0 > y.1.2) || !M.val (c_ref07_CanBe (x.1, x.2.2.1, y.1.1)) false)) = true ∧ True) ∧ (c_ref07_CanBe (x.1, x.2.2.1, y.1.2)).safe ∧
  True) (M.req ((!(decide (y.2 ≠ 0) || decide (y_3.2 ≠ 0) || decide (List.getD x.2.1.1 (Int.toNat x.2.2.1) 0 < y.1.1) || decide (List.getD x.2.1.1
  (Int.toNat x.2.2.1) 0 > y.1.2) || !M.val (c_ref07_CanBe (x.1, x.2.2.1, y.1.1)) false)) = true → (!(decide (y.2 ≠ 0) || decide (y_3.2 ≠ 0) || decide
  (List.getD x.2.1.1 (Int.toNat x.2.2.1) 0 < y.1.1) || decide (List.getD x.2.1.1 (Int.toNat x.2.2.1) 0 > y.1.2) || !M.val (c_ref07_CanBe (x.1, x.2.2.1,
  y.1.1)) false)) = true ∧ True ∧ True) (M.req (True ∧ ((decide (y.2 ≠ 0) || decide (y_3.2 ≠ 0) || decide (List.getD x.2.1.1 (Int.toNat x.2.2.1) 0 <
  y.1.1) || decide (List.getD x.2.1.1 (Int.toNat x.2.2.1) 0 > y.1.2) || !M.val (c_ref07_CanBe (x.1, x.2.2.1, y.1.1)) false) = false → (!(decide (y.2 ≠
  0) || decide (y_3.2 ≠ 0) || decide (List.getD x.2.1.1 (Int.toNat x.2.2.1) 0 < y.1.1) || decide (List.getD x.2.1.1 (Int.toNat x.2.2.1) 0 > y.1.2) ||
  !M.val (c_ref07_CanBe (x.1, x.2.2.1, y.1.1)) false)) = true)) (if (decide (y.2 ≠ 0) || decide (y_3.2 ≠ 0) || decide (List.getD x.2.1.1 (Int.toNat
  x.2.2.1) 0 < y.1.1) || decide (List.getD x.2.1.1 (Int.toNat x.2.2.1) 0 > y.1.2) || !M.val (c_ref07_CanBe (x.1, x.2.2.1, y.1.1)) false || !M.val
  (c_ref07_CanBe (x.1, x.2.2.1, y.1.2)) false) = true then M.pure false else M.req (0 ≤ x.2.2.1 ∧ x.2.2.1 < Int.ofNat (List.length x.2.1.1)) (M.req
  (c_ref07_FitsAt (x.1, x.2.2.1, List.getD x.2.1.1 (Int.toNat x.2.2.1) 0, x.2.2.2)).safe (M.req (c_law07_agrees (y_3.1, M.val (c_ref07_FitsAt (x.1,
  x.2.2.1, List.getD x.2.1.1 (Int.toNat x.2.2.1) 0, x.2.2.2)) false)).safe (if (!M.val (c_law07_agrees (y_3.1, M.val (c_ref07_FitsAt (x.1, x.2.2.1,
  List.getD x.2.1.1 (Int.toNat x.2.2.1) 0, x.2.2.2)) false)) false) = true then M.pure false else M.bind (c_parts_Mends (x.1, x.2.1.2, x.2.2.2.1)) fun y
  => if decide (y.2 ≠ 0) = true then M.bind (gdo (decide (y.2 = 1)) (c_law07_works ()) false) fun y_4 => M.pure (decide (y.2 = 1) && y_4) else M.bind
  (M.loop (fun (σ : Int × Bool × Int × Wsh × (List Int × List Int) × (Int × Int × Int) × Unit) => M.req (0 ≤ σ.2.2.2.2.2.1.2.1 ∧ σ.2.2.2.2.2.1.2.1 <
  Int.ofNat (List.length σ.2.2.2.1.2.1)) (if decide (σ.2.2.1 < Int.ofNat (List.length (List.getD σ.2.2.2.1.2.1 (Int.toNat σ.2.2.2.2.2.1.2.1) []))) =
  true then M.bind (M.bind (M.loop (fun (σ : Int × Bool × Int × Bool × Int × Wsh × (List Int × List Int) × (Int × Int × Int) × Unit) => if decide
  (σ.2.2.2.2.1 < Int.ofNat (List.length σ.2.2.2.2.2.2.1.2)) = true then M.req (0 ≤ σ.2.2.2.2.1 ∧ σ.2.2.2.2.1 < Int.ofNat (List.length
  σ.2.2.2.2.2.2.1.2)) (M.req (c_ref07_IsSpare (σ.2.2.2.2.2.1, List.getD σ.2.2.2.2.2.2.1.2 (Int.toNat σ.2.2.2.2.1) 0)).safe (if (!M.val (c_ref07_IsSpare
  (σ.2.2.2.2.2.1, List.getD σ.2.2.2.2.2.2.1.2 (Int.toNat σ.2.2.2.2.1) 0)) false) = true then M.bind (M.bind (M.bind (M.bind (M.bind (M.pure false) fun r
  => M.pure (Step.done r)) fun r => M.pure (Step.done r)) fun r => M.pure (Step.done r)) fun r => M.pure (Step.done r)) fun r => M.pure (Step.done r)
  else M.req ((!σ.2.2.2.1) = true → (!σ.2.2.2.1) = true ∧ True ∧ True) (M.req ((!σ.2.2.2.1) = true → ((!σ.2.2.2.1) = true ∧ (!σ.2.2.2.1) = true) ∧ (0 ≤
  σ.2.2.2.2.1 ∧ σ.2.2.2.2.1 < Int.ofNat (List.length σ.2.2.2.2.2.2.1.2)) ∧ True) (M.req ((!σ.2.2.2.1) = true → (!σ.2.2.2.1) = true ∧ True ∧ True)
  (M.req ((!σ.2.2.2.1) = true → (!σ.2.2.2.1) = true ∧ True ∧ True) (M.req ((!σ.2.2.2.1) = true → (!σ.2.2.2.1) = true ∧ True ∧ True) (M.req
  ((!σ.2.2.2.1) = true → ((!σ.2.2.2.1) = true ∧ (!σ.2.2.2.1) = true) ∧ (0 ≤ σ.2.2.2.2.1 ∧ σ.2.2.2.2.1 < Int.ofNat (List.length σ.2.2.2.2.2.2.1.2)) ∧
  True) (M.req ((!σ.2.2.2.1) = true → (!σ.2.2.2.1) = true ∧ True ∧ True) (M.req ((!σ.2.2.2.1) = true → ((!σ.2.2.2.1) = true ∧ (!σ.2.2.2.1) = true) ∧ (0
  ≤ List.getD σ.2.2.2.2.2.2.1.2 (Int.toNat σ.2.2.2.2.1) 0 ∧ List.getD σ.2.2.2.2.2.2.1.2 (Int.toNat σ.2.2.2.2.1) 0 < Int.ofNat (List.length
  σ.2.2.2.2.2.2.1.1)) ∧ True) (M.req ((!σ.2.2.2.1) = true → (!σ.2.2.2.1) = true ∧ True ∧ True) (M.req ((!σ.2.2.2.1) = true → (!σ.2.2.2.1) = true ∧ True
  ∧ True) (M.req ((!σ.2.2.2.1) = true → ((!σ.2.2.2.1) = true ∧ (!σ.2.2.2.1) = true ∧ (!σ.2.2.2.1) = true ∧ (!σ.2.2.2.1) = true ∧ (!σ.2.2.2.1) = true ∧
  True) ∧ (c_ref07_FitsAt (σ.2.2.2.2.2.1, List.getD σ.2.2.2.2.2.2.1.2 (Int.toNat σ.2.2.2.2.1) 0, List.getD σ.2.2.2.2.2.2.1.1 (Int.toNat (List.getD
  σ.2.2.2.2.2.2.1.2 (Int.toNat σ.2.2.2.2.1) 0)) 0, σ.2.2.2.2.2.2.2.1.2.1, σ.2.2.1)).safe ∧ True) (M.req (True ∧ (σ.2.2.2.1 = false → (!σ.2.2.2.1) =
  true)) (M.pure (Step.next (σ.1, σ.2.1, σ.2.2.1, σ.2.2.2.1 || M.val (c_ref07_FitsAt (σ.2.2.2.2.2.1, List.getD σ.2.2.2.2.2.2.1.2 (Int.toNat
  σ.2.2.2.2.1) 0, List.getD σ.2.2.2.2.2.2.1.1 (Int.toNat (List.getD σ.2.2.2.2.2.2.1.2 (Int.toNat σ.2.2.2.2.1) 0)) 0, σ.2.2.2.2.2.2.2.1.2.1, σ.2.2.1))
  false, IntKind.wrap .i64 (Add.add σ.2.2.2.2.1 1), σ.2.2.2.2.2.1, σ.2.2.2.2.2.2.1, σ.2.2.2.2.2.2.2.1, ())))))))))))))))) else M.bind (M.pure
  (Step.next (σ.1, σ.2.1, σ.2.2.1, σ.2.2.2.1, σ.2.2.2.2.2.1, σ.2.2.2.2.2.2.1, σ.2.2.2.2.2.2.2.1, ()))) fun r => M.pure (Step.done r)) (σ.1, σ.2.1,
  σ.2.2.1, false, 0, σ.2.2.2.1, σ.2.2.2.2.1, σ.2.2.2.2.2.1, ())) (Step.go fun (σ : Int × Bool × Int × Bool × Wsh × (List Int × List Int) × (Int × Int ×
  Int) × Unit) => M.pure (Step.next (σ.1, σ.2.1 && σ.2.2.2.1, σ.2.2.1, σ.2.2.2.2.1, σ.2.2.2.2.2.1, σ.2.2.2.2.2.2.1, ())))) (Step.go fun (σ : Int × Bool
  × Int × Wsh × (List Int × List Int) × (Int × Int × Int) × Unit) => M.pure (Step.next (σ.1, σ.2.1, IntKind.wrap .i64 (Add.add σ.2.2.1 1), σ.2.2.2.1,
  σ.2.2.2.2.1, σ.2.2.2.2.2.1, ()))) else M.bind (M.pure (Step.next (σ.1, σ.2.1, ()))) fun r => M.pure (Step.done r))) (y.1, true, 0, x.1, x.2.1, x.2.2,
  ())) (Step.go fun (σ : Int × Bool × Unit) => M.bind (c_law07_agrees (σ.1, σ.2.1)) fun y => M.bind (gdo y (c_law07_works ()) false) fun y_4 => M.pure
  (y && y_4)))))))))))))))))))))))))))))))
noncomputable def S_law07_PartsTrial (c_law07_ready : List (Int × Int × Int × Int) × List (List (Int × List Int × Int × Int)) × Int × List (Int × Int × Int × Int) → M Bool) (c_law07_works : Unit → M Bool) (c_parts_Fewest : List (Int × Int × Int × Int) × List (List (Int × List Int × Int × Int)) × Int × List (Int × Int × Int × Int) → M (Int × Int)) (c_ref07_CopyIO : Wsh × Unit → M (Int × List (Int × Int × Int × Int) × List (Int × Int × Int × Int) × List (List (Int × List Int × Int × Int)) × Unit)) (c_parts_Length : Wsh × Int → M ((Int × Int) × Int)) (c_parts_Fits : Wsh × Int × Int × Int → M (Int × Int)) (c_parts_Mends : Wsh × List Int × Int → M (Int × Int)) (c_law07_isAsk : Wsh × Int × Int × Int → M Bool) (x : Wsh × ((Int × Int × Int × Int) × List Int) × Int × Int × Int) : M Bool :=
  M.bind (c_law07_ready x.1) fun y => M.bind (gdo (!!y) (c_law07_isAsk (x.1, x.2.2)) false) fun y_1 => if (!y || !y_1 || decide (Int.ofNat (List.length
  x.1.2.2.2) > 9) || decide (Int.ofNat (List.length x.2.1.2) > 20)) = true then M.bind (c_law07_works ()) fun y => M.pure y else M.bind (c_ref07_CopyIO
  (x.1, ())) fun y => M.req (lenLe (Add.add (List.length y.2.2.1) (Add.add 0 1))) (M.bind (c_law07_ready (y.2.1, y.2.2.2.1, y.1, y.2.2.1 ++ [x.2.1.1]))
  fun y_2 => if (!y_2) = true then M.bind (c_law07_works ()) fun y => M.pure y else M.bind (c_parts_Length (x.1, x.2.2.1)) fun y_3 => M.bind
  (c_parts_Length ((y.2.1, y.2.2.2.1, y.1, y.2.2.1 ++ [x.2.1.1]), x.2.2.1)) fun y_4 => M.bind (c_parts_Fits (x.1, x.2.2)) fun y_5 => M.bind
  (c_parts_Fits ((y.2.1, y.2.2.2.1, y.1, y.2.2.1 ++ [x.2.1.1]), x.2.2)) fun y_6 => M.bind (c_parts_Mends (x.1, x.2.1.2, x.2.2.2.1)) fun y_7 => M.bind
  (c_parts_Mends ((y.2.1, y.2.2.2.1, y.1, y.2.2.1 ++ [x.2.1.1]), x.2.1.2, x.2.2.2.1)) fun y_8 => M.bind (c_parts_Fewest x.1) fun y_9 => M.bind
  (c_parts_Fewest (y.2.1, y.2.2.2.1, y.1, y.2.2.1 ++ [x.2.1.1])) fun y => if (decide (y_3.2 ≠ 0) || decide (y_4.2 ≠ 0) || decide (y_5.2 ≠ 0) || decide
  (y_6.2 ≠ 0) || decide (y_7.2 ≠ y_8.2) || decide (y_9.2 ≠ 0) && decide (y_9.2 ≠ 3) || decide (y.2 ≠ 0) && decide (y.2 ≠ 3)) = true then M.pure false
  else if (decide (y_4.1.1 < y_3.1.1) || decide (y_4.1.2 > y_3.1.2) || decide (y_5.1 ≠ 3) && decide (y_5.1 ≠ y_6.1) || decide (y_7.1 ≠ 3) && decide
  (y_7.1 ≠ y_8.1)) = true then M.pure false else M.bind (gdo (decide (y_9.2 ≠ 0) || decide (y.2 = 0) && decide (y.1 ≤ y_9.1)) (c_law07_works ()) false)
  fun y_10 => M.pure ((decide (y_9.2 ≠ 0) || decide (y.2 = 0) && decide (y.1 ≤ y_9.1)) && y_10))
noncomputable def S_law07_PartsLists (c_law07_ready : List (Int × Int × Int × Int) × List (List (Int × List Int × Int × Int)) × Int × List (Int × Int × Int × Int) → M Bool) (c_law07_works : Unit → M Bool) (c_parts_Fewest : List (Int × Int × Int × Int) × List (List (Int × List Int × Int × Int)) × Int × List (Int × Int × Int × Int) → M (Int × Int)) (c_parts_Needed : List (Int × Int × Int × Int) × List (List (Int × List Int × Int × Int)) × Int × List (Int × Int × Int × Int) → M (List Int × Int)) (c_ref07_IsSpare : Wsh × Int → M Bool) (c_parts_Keep : List (Int × Int × Int × Int) × List (List (Int × List Int × Int × Int)) × Int × List (Int × Int × Int × Int) → M (List Int × Int)) (c_law07_all : Wsh × List Int → M Bool) (c_law07_subset : List Int × List Int → M Bool) (c_ref07_Ascending : List Int → M Bool) (x : Wsh × List Int) : M Bool :=
  M.bind (c_law07_ready x.1) fun y => if (!y || decide (Int.ofNat (List.length x.2) > 20)) = true then M.bind (c_law07_works ()) fun y => M.pure y else
  M.bind (c_parts_Fewest x.1) fun y => M.bind (c_parts_Needed x.1) fun y_1 => M.bind (c_parts_Keep x.1) fun y_2 => if (decide (y.2 ≠ y_1.2) || decide
  (y.2 ≠ y_2.2) || decide (y.2 ≠ 0) && decide (y.2 ≠ 3) || decide (Int.ofNat (List.length y_1.1) > y.1) || decide (Int.ofNat (List.length y_2.1) ≠
  y.1)) = true then M.pure false else M.bind (gdo (decide (y.2 = 0)) (c_law07_all (x.1, y_2.1)) false) fun y_3 => M.bind (gdo (decide (y.2 = 0) &&
  !!y_3) (c_law07_subset (y_1.1, y_2.1)) false) fun y_4 => if (decide (y.2 = 0) && (!y_3 || !y_4)) = true then M.pure false else M.bind (M.loop (fun (σ
  : List Int × Int × Int × List Int × Int × Wsh × Unit) => if decide (σ.2.2.2.2.1 < Int.ofNat (List.length σ.1)) = true then M.req (0 ≤ σ.2.2.2.2.1 ∧
  σ.2.2.2.2.1 < Int.ofNat (List.length σ.1)) (M.req (c_ref07_IsSpare (σ.2.2.2.2.2.1, List.getD σ.1 (Int.toNat σ.2.2.2.2.1) 0)).safe (if (!M.val
  (c_ref07_IsSpare (σ.2.2.2.2.2.1, List.getD σ.1 (Int.toNat σ.2.2.2.2.1) 0)) false) = true then M.bind (c_law07_works ()) fun y => M.bind (M.bind
  (M.pure y) fun r => M.pure (Step.done r)) fun r => M.pure (Step.done r) else M.pure (Step.next (σ.1, σ.2.1, σ.2.2.1, σ.2.2.2.1, IntKind.wrap .i64
  (Add.add σ.2.2.2.2.1 1), σ.2.2.2.2.2.1, ())))) else M.bind (M.pure (Step.next (σ.1, σ.2.1, σ.2.2.1, σ.2.2.2.1, σ.2.2.2.2.2.1, ()))) fun r => M.pure
  (Step.done r)) (x.2, y.1, y.2, y_1.1, 0, x.1, ())) (Step.go fun (σ : List Int × Int × Int × List Int × Wsh × Unit) => M.bind (c_ref07_Ascending σ.1)
  fun y => M.bind (gdo (!!y) (c_law07_all (σ.2.2.2.2.1, σ.1)) false) fun y_5 => if (!y || !y_5) = true then M.bind (c_law07_works ()) fun y => M.pure y
  else M.bind (gdo (decide (σ.2.2.1 = 0) && decide (σ.2.1 ≤ Int.ofNat (List.length σ.1)) && !decide (σ.2.1 < Int.ofNat (List.length σ.1)))
  (c_law07_subset (σ.2.2.2.1, σ.1)) false) fun y => M.bind (gdo (decide (σ.2.2.1 = 0) && decide (σ.2.1 ≤ Int.ofNat (List.length σ.1)) && (decide (σ.2.1
  < Int.ofNat (List.length σ.1)) || y)) (c_law07_works ()) false) fun y_6 => M.pure (decide (σ.2.2.1 = 0) && decide (σ.2.1 ≤ Int.ofNat (List.length
  σ.1)) && (decide (σ.2.1 < Int.ofNat (List.length σ.1)) || y) && y_6))
noncomputable def S_law07_PartsMost (c_law07_works : Unit → M Bool) (c_ref07_Copy : List (Int × Int × Int × Int) × List (List (Int × List Int × Int × Int)) × Int × List (Int × Int × Int × Int) → M Wsh) (c_ref07_IsTask : Wsh × List Int × List (Int × Int) → M Bool) (c_parts_Most : Wsh × List Int × List (Int × Int) → M (Int × Int)) (c_law07_Far : List (Int × Int × Int × Int) × List (List (Int × List Int × Int × Int)) × Int × List (Int × Int × Int × Int) → M Bool) (c_ref07_Check : List (Int × Int × Int × Int) × List (List (Int × List Int × Int × Int)) × Int × List (Int × Int × Int × Int) → M Int) (c_ref07_Most : Wsh × List Int × List (Int × Int) → M (Int × Int)) (c_parts_Work : Wsh × List Int × List (Int × Int) → M (List Int × Int)) (c_parts_Short : Wsh × List Int × List (Int × Int) → M (List Int × Int)) (c_ref07_Done : Wsh × List Int × List (Int × Int) × List Int → M Int) (c_law07_areJobs : List (Int × Int) × List Int → M Bool) (c_ref07_Lacks : Wsh × List Int × List (Int × Int) × List Int → M Int) (x : Wsh × List Int × List (Int × Int)) : M Bool :=
  M.bind (c_law07_Far x.1) fun y => M.bind (gdo (!(y || decide (Int.ofNat (List.length x.2.1) > 40) || decide (Int.ofNat (List.length x.2.2) > 40)) &&
  decide (Int.ofNat (List.length x.2.2) > 5)) (c_ref07_Check x.1) 0) fun y_1 => M.bind (gdo (!(y || decide (Int.ofNat (List.length x.2.1) > 40) ||
  decide (Int.ofNat (List.length x.2.2) > 40)) && (decide (Int.ofNat (List.length x.2.2) > 5) && decide (y_1 = 0))) (c_ref07_IsTask x) false) fun y_2
  => if (y || decide (Int.ofNat (List.length x.2.1) > 40) || decide (Int.ofNat (List.length x.2.2) > 40) || decide (Int.ofNat (List.length x.2.2) > 5)
  && decide (y_1 = 0) && y_2) = true then M.bind (c_law07_works ()) fun y => M.pure y else M.bind (c_ref07_Copy x.1) fun y => M.req (lenLe (Add.add 0
  (List.length x.2.1))) (M.req (lenLe (Add.add 0 (List.length x.2.2))) (M.req (c_parts_Most (y, [] ++ x.2.1, [] ++ x.2.2)).safe (M.bind (c_ref07_Most
  x) fun y_3 => M.req (lenLe (Add.add 0 (List.length x.2.1))) (M.req (lenLe (Add.add 0 (List.length x.2.2))) (M.req (c_parts_Work (y, [] ++ x.2.1, []
  ++ x.2.2)).safe (M.req (lenLe (Add.add 0 (List.length x.2.1))) (M.req (lenLe (Add.add 0 (List.length x.2.2))) (M.req (c_parts_Short (y, [] ++ x.2.1,
  [] ++ x.2.2)).safe (if (decide ((M.val (c_parts_Most (y, [] ++ x.2.1, [] ++ x.2.2)) (0, 0)).1 ≠ y_3.1) || decide ((M.val (c_parts_Most (y, [] ++
  x.2.1, [] ++ x.2.2)) (0, 0)).2 ≠ y_3.2) || decide ((M.val (c_parts_Work (y, [] ++ x.2.1, [] ++ x.2.2)) ([], 0)).2 ≠ y_3.2) || decide ((M.val
  (c_parts_Short (y, [] ++ x.2.1, [] ++ x.2.2)) ([], 0)).2 ≠ y_3.2) || decide (Int.ofNat (List.length (M.val (c_parts_Short (y, [] ++ x.2.1, [] ++
  x.2.2)) ([], 0)).1) > Int.ofNat (List.length x.2.2))) = true then M.pure false else if decide (y_3.2 ≠ 0) = true then M.bind (gdo (decide (Int.ofNat
  (List.length (M.val (c_parts_Work (y, [] ++ x.2.1, [] ++ x.2.2)) ([], 0)).1) = 0) && decide (Int.ofNat (List.length (M.val (c_parts_Short (y, [] ++
  x.2.1, [] ++ x.2.2)) ([], 0)).1) = 0)) (c_law07_works ()) false) fun y_4 => M.pure (decide (Int.ofNat (List.length (M.val (c_parts_Work (y, [] ++
  x.2.1, [] ++ x.2.2)) ([], 0)).1) = 0) && decide (Int.ofNat (List.length (M.val (c_parts_Short (y, [] ++ x.2.1, [] ++ x.2.2)) ([], 0)).1) = 0) && y_4)
  else M.req (c_ref07_Done (x.1, x.2.1, x.2.2, (M.val (c_parts_Work (y, [] ++ x.2.1, [] ++ x.2.2)) ([], 0)).1)).safe (M.req (decide (M.val
  (c_ref07_Done (x.1, x.2.1, x.2.2, (M.val (c_parts_Work (y, [] ++ x.2.1, [] ++ x.2.2)) ([], 0)).1)) 0 = y_3.1) = true → decide (M.val (c_ref07_Done
  (x.1, x.2.1, x.2.2, (M.val (c_parts_Work (y, [] ++ x.2.1, [] ++ x.2.2)) ([], 0)).1)) 0 = y_3.1) = true ∧ True ∧ True) (M.req (decide (M.val
  (c_ref07_Done (x.1, x.2.1, x.2.2, (M.val (c_parts_Work (y, [] ++ x.2.1, [] ++ x.2.2)) ([], 0)).1)) 0 = y_3.1) = true → (decide (M.val (c_ref07_Done
  (x.1, x.2.1, x.2.2, (M.val (c_parts_Work (y, [] ++ x.2.1, [] ++ x.2.2)) ([], 0)).1)) 0 = y_3.1) = true ∧ decide (M.val (c_ref07_Done (x.1, x.2.1,
  x.2.2, (M.val (c_parts_Work (y, [] ++ x.2.1, [] ++ x.2.2)) ([], 0)).1)) 0 = y_3.1) = true ∧ True) ∧ (c_law07_areJobs (x.2.2, (M.val (c_parts_Short
  (y, [] ++ x.2.1, [] ++ x.2.2)) ([], 0)).1)).safe ∧ True) (M.req (True ∧ (decide (M.val (c_ref07_Done (x.1, x.2.1, x.2.2, (M.val (c_parts_Work (y, []
  ++ x.2.1, [] ++ x.2.2)) ([], 0)).1)) 0 = y_3.1) = true → decide (M.val (c_ref07_Done (x.1, x.2.1, x.2.2, (M.val (c_parts_Work (y, [] ++ x.2.1, [] ++
  x.2.2)) ([], 0)).1)) 0 = y_3.1) = true)) (M.req ((decide (M.val (c_ref07_Done (x.1, x.2.1, x.2.2, (M.val (c_parts_Work (y, [] ++ x.2.1, [] ++ x.2.2))
  ([], 0)).1)) 0 = y_3.1) && M.val (c_law07_areJobs (x.2.2, (M.val (c_parts_Short (y, [] ++ x.2.1, [] ++ x.2.2)) ([], 0)).1)) false) = true → (decide
  (M.val (c_ref07_Done (x.1, x.2.1, x.2.2, (M.val (c_parts_Work (y, [] ++ x.2.1, [] ++ x.2.2)) ([], 0)).1)) 0 = y_3.1) && M.val (c_law07_areJobs
  (x.2.2, (M.val (c_parts_Short (y, [] ++ x.2.1, [] ++ x.2.2)) ([], 0)).1)) false) = true ∧ True ∧ True) (M.req ((decide (M.val (c_ref07_Done (x.1,
  x.2.1, x.2.2, (M.val (c_parts_Work (y, [] ++ x.2.1, [] ++ x.2.2)) ([], 0)).1)) 0 = y_3.1) && M.val (c_law07_areJobs (x.2.2, (M.val (c_parts_Short (y,
  [] ++ x.2.1, [] ++ x.2.2)) ([], 0)).1)) false) = true → (decide (M.val (c_ref07_Done (x.1, x.2.1, x.2.2, (M.val (c_parts_Work (y, [] ++ x.2.1, [] ++
  x.2.2)) ([], 0)).1)) 0 = y_3.1) && M.val (c_law07_areJobs (x.2.2, (M.val (c_parts_Short (y, [] ++ x.2.1, [] ++ x.2.2)) ([], 0)).1)) false) = true ∧
  True ∧ True) (M.req ((decide (M.val (c_ref07_Done (x.1, x.2.1, x.2.2, (M.val (c_parts_Work (y, [] ++ x.2.1, [] ++ x.2.2)) ([], 0)).1)) 0 = y_3.1) &&
  M.val (c_law07_areJobs (x.2.2, (M.val (c_parts_Short (y, [] ++ x.2.1, [] ++ x.2.2)) ([], 0)).1)) false) = true → ((decide (M.val (c_ref07_Done (x.1,
  x.2.1, x.2.2, (M.val (c_parts_Work (y, [] ++ x.2.1, [] ++ x.2.2)) ([], 0)).1)) 0 = y_3.1) && M.val (c_law07_areJobs (x.2.2, (M.val (c_parts_Short (y,
  [] ++ x.2.1, [] ++ x.2.2)) ([], 0)).1)) false) = true ∧ (decide (M.val (c_ref07_Done (x.1, x.2.1, x.2.2, (M.val (c_parts_Work (y, [] ++ x.2.1, [] ++
  x.2.2)) ([], 0)).1)) 0 = y_3.1) && M.val (c_law07_areJobs (x.2.2, (M.val (c_parts_Short (y, [] ++ x.2.1, [] ++ x.2.2)) ([], 0)).1)) false) = true ∧
  (decide (M.val (c_ref07_Done (x.1, x.2.1, x.2.2, (M.val (c_parts_Work (y, [] ++ x.2.1, [] ++ x.2.2)) ([], 0)).1)) 0 = y_3.1) && M.val
  (c_law07_areJobs (x.2.2, (M.val (c_parts_Short (y, [] ++ x.2.1, [] ++ x.2.2)) ([], 0)).1)) false) = true ∧ (decide (M.val (c_ref07_Done (x.1, x.2.1,
  x.2.2, (M.val (c_parts_Work (y, [] ++ x.2.1, [] ++ x.2.2)) ([], 0)).1)) 0 = y_3.1) && M.val (c_law07_areJobs (x.2.2, (M.val (c_parts_Short (y, [] ++
  x.2.1, [] ++ x.2.2)) ([], 0)).1)) false) = true ∧ True) ∧ (c_ref07_Lacks (x.1, x.2.1, x.2.2, (M.val (c_parts_Short (y, [] ++ x.2.1, [] ++ x.2.2))
  ([], 0)).1)).safe ∧ True) (M.req ((decide (M.val (c_ref07_Done (x.1, x.2.1, x.2.2, (M.val (c_parts_Work (y, [] ++ x.2.1, [] ++ x.2.2)) ([], 0)).1)) 0
  = y_3.1) && M.val (c_law07_areJobs (x.2.2, (M.val (c_parts_Short (y, [] ++ x.2.1, [] ++ x.2.2)) ([], 0)).1)) false) = true → (decide (M.val
  (c_ref07_Done (x.1, x.2.1, x.2.2, (M.val (c_parts_Work (y, [] ++ x.2.1, [] ++ x.2.2)) ([], 0)).1)) 0 = y_3.1) && M.val (c_law07_areJobs (x.2.2,
  (M.val (c_parts_Short (y, [] ++ x.2.1, [] ++ x.2.2)) ([], 0)).1)) false) = true ∧ True ∧ True) (M.req ((decide (M.val (c_ref07_Done (x.1, x.2.1,
  x.2.2, (M.val (c_parts_Work (y, [] ++ x.2.1, [] ++ x.2.2)) ([], 0)).1)) 0 = y_3.1) && M.val (c_law07_areJobs (x.2.2, (M.val (c_parts_Short (y, [] ++
  x.2.1, [] ++ x.2.2)) ([], 0)).1)) false) = true → (decide (M.val (c_ref07_Done (x.1, x.2.1, x.2.2, (M.val (c_parts_Work (y, [] ++ x.2.1, [] ++
  x.2.2)) ([], 0)).1)) 0 = y_3.1) && M.val (c_law07_areJobs (x.2.2, (M.val (c_parts_Short (y, [] ++ x.2.1, [] ++ x.2.2)) ([], 0)).1)) false) = true ∧
  True ∧ True) (M.req ((decide (M.val (c_ref07_Done (x.1, x.2.1, x.2.2, (M.val (c_parts_Work (y, [] ++ x.2.1, [] ++ x.2.2)) ([], 0)).1)) 0 = y_3.1) &&
  M.val (c_law07_areJobs (x.2.2, (M.val (c_parts_Short (y, [] ++ x.2.1, [] ++ x.2.2)) ([], 0)).1)) false) = true → ((decide (M.val (c_ref07_Done (x.1,
  x.2.1, x.2.2, (M.val (c_parts_Work (y, [] ++ x.2.1, [] ++ x.2.2)) ([], 0)).1)) 0 = y_3.1) && M.val (c_law07_areJobs (x.2.2, (M.val (c_parts_Short (y,
  [] ++ x.2.1, [] ++ x.2.2)) ([], 0)).1)) false) = true ∧ (decide (M.val (c_ref07_Done (x.1, x.2.1, x.2.2, (M.val (c_parts_Work (y, [] ++ x.2.1, [] ++
  x.2.2)) ([], 0)).1)) 0 = y_3.1) && M.val (c_law07_areJobs (x.2.2, (M.val (c_parts_Short (y, [] ++ x.2.1, [] ++ x.2.2)) ([], 0)).1)) false) = true) ∧
  True ∧ True) (M.req ((decide (M.val (c_ref07_Done (x.1, x.2.1, x.2.2, (M.val (c_parts_Work (y, [] ++ x.2.1, [] ++ x.2.2)) ([], 0)).1)) 0 = y_3.1) &&
  M.val (c_law07_areJobs (x.2.2, (M.val (c_parts_Short (y, [] ++ x.2.1, [] ++ x.2.2)) ([], 0)).1)) false) = true → ((decide (M.val (c_ref07_Done (x.1,
  x.2.1, x.2.2, (M.val (c_parts_Work (y, [] ++ x.2.1, [] ++ x.2.2)) ([], 0)).1)) 0 = y_3.1) && M.val (c_law07_areJobs (x.2.2, (M.val (c_parts_Short (y,
  [] ++ x.2.1, [] ++ x.2.2)) ([], 0)).1)) false) = true ∧ (decide (M.val (c_ref07_Done (x.1, x.2.1, x.2.2, (M.val (c_parts_Work (y, [] ++ x.2.1, [] ++
  x.2.2)) ([], 0)).1)) 0 = y_3.1) && M.val (c_law07_areJobs (x.2.2, (M.val (c_parts_Short (y, [] ++ x.2.1, [] ++ x.2.2)) ([], 0)).1)) false) = true) ∧
  True ∧ True) (M.req (True ∧ ((decide (M.val (c_ref07_Done (x.1, x.2.1, x.2.2, (M.val (c_parts_Work (y, [] ++ x.2.1, [] ++ x.2.2)) ([], 0)).1)) 0 =
  y_3.1) && M.val (c_law07_areJobs (x.2.2, (M.val (c_parts_Short (y, [] ++ x.2.1, [] ++ x.2.2)) ([], 0)).1)) false) = true → (decide (M.val
  (c_ref07_Done (x.1, x.2.1, x.2.2, (M.val (c_parts_Work (y, [] ++ x.2.1, [] ++ x.2.2)) ([], 0)).1)) 0 = y_3.1) && M.val (c_law07_areJobs (x.2.2,
  (M.val (c_parts_Short (y, [] ++ x.2.1, [] ++ x.2.2)) ([], 0)).1)) false) = true)) (M.req ((decide (M.val (c_ref07_Done (x.1, x.2.1, x.2.2, (M.val
  (c_parts_Work (y, [] ++ x.2.1, [] ++ x.2.2)) ([], 0)).1)) 0 = y_3.1) && M.val (c_law07_areJobs (x.2.2, (M.val (c_parts_Short (y, [] ++ x.2.1, [] ++
  x.2.2)) ([], 0)).1)) false && decide (M.val (c_ref07_Lacks (x.1, x.2.1, x.2.2, (M.val (c_parts_Short (y, [] ++ x.2.1, [] ++ x.2.2)) ([], 0)).1)) 0 =
  IntKind.wrap .i64 (Int.ofNat (List.length x.2.2) - y_3.1))) = true → True ∧ (c_law07_works ()).safe ∧ True) (M.req (True ∧ ((decide (M.val
  (c_ref07_Done (x.1, x.2.1, x.2.2, (M.val (c_parts_Work (y, [] ++ x.2.1, [] ++ x.2.2)) ([], 0)).1)) 0 = y_3.1) && M.val (c_law07_areJobs (x.2.2,
  (M.val (c_parts_Short (y, [] ++ x.2.1, [] ++ x.2.2)) ([], 0)).1)) false && decide (M.val (c_ref07_Lacks (x.1, x.2.1, x.2.2, (M.val (c_parts_Short (y,
  [] ++ x.2.1, [] ++ x.2.2)) ([], 0)).1)) 0 = IntKind.wrap .i64 (Int.ofNat (List.length x.2.2) - y_3.1))) = true → (decide (M.val (c_ref07_Done (x.1,
  x.2.1, x.2.2, (M.val (c_parts_Work (y, [] ++ x.2.1, [] ++ x.2.2)) ([], 0)).1)) 0 = y_3.1) && M.val (c_law07_areJobs (x.2.2, (M.val (c_parts_Short (y,
  [] ++ x.2.1, [] ++ x.2.2)) ([], 0)).1)) false && decide (M.val (c_ref07_Lacks (x.1, x.2.1, x.2.2, (M.val (c_parts_Short (y, [] ++ x.2.1, [] ++
  x.2.2)) ([], 0)).1)) 0 = IntKind.wrap .i64 (Int.ofNat (List.length x.2.2) - y_3.1))) = true)) (M.pure (decide (M.val (c_ref07_Done (x.1, x.2.1,
  x.2.2, (M.val (c_parts_Work (y, [] ++ x.2.1, [] ++ x.2.2)) ([], 0)).1)) 0 = y_3.1) && M.val (c_law07_areJobs (x.2.2, (M.val (c_parts_Short (y, [] ++
  x.2.1, [] ++ x.2.2)) ([], 0)).1)) false && decide (M.val (c_ref07_Lacks (x.1, x.2.1, x.2.2, (M.val (c_parts_Short (y, [] ++ x.2.1, [] ++ x.2.2)) ([],
  0)).1)) 0 = IntKind.wrap .i64 (Int.ofNat (List.length x.2.2) - y_3.1)) && M.val (c_law07_works ()) false))))))))))))))))))))))))
noncomputable def S_law07_PartsProof (c_law07_ready : List (Int × Int × Int × Int) × List (List (Int × List Int × Int × Int)) × Int × List (Int × Int × Int × Int) → M Bool) (c_law07_works : Unit → M Bool) (c_ref07_IsTask : Wsh × List Int × List (Int × Int) → M Bool) (c_parts_Most : Wsh × List Int × List (Int × Int) → M (Int × Int)) (c_parts_Work : Wsh × List Int × List (Int × Int) → M (List Int × Int)) (c_parts_Short : Wsh × List Int × List (Int × Int) → M (List Int × Int)) (c_ref07_Done : Wsh × List Int × List (Int × Int) × List Int → M Int) (c_law07_areJobs : List (Int × Int) × List Int → M Bool) (c_law07_lacks : Wsh × (List Int × List (Int × Int)) × List Int → M Int) (x : Wsh × (List Int × List (Int × Int)) × List Int) : M Bool :=
  M.bind (c_law07_ready x.1) fun y => M.bind (gdo (!(!y || decide (Int.ofNat (List.length x.2.1.1) > 40) || decide (Int.ofNat (List.length x.2.1.2) >
  40) || decide (Int.ofNat (List.length x.2.2) > 40))) (c_ref07_IsTask (x.1, x.2.1)) false) fun y_1 => if (!y || decide (Int.ofNat (List.length
  x.2.1.1) > 40) || decide (Int.ofNat (List.length x.2.1.2) > 40) || decide (Int.ofNat (List.length x.2.2) > 40) || !y_1) = true then M.bind
  (c_law07_works ()) fun y => M.pure y else M.bind (c_parts_Most (x.1, x.2.1)) fun y => M.bind (c_parts_Work (x.1, x.2.1)) fun y_2 => M.bind
  (c_parts_Short (x.1, x.2.1)) fun y_3 => M.bind (gdo (!(decide (y.2 ≠ 0) || decide (y_2.2 ≠ 0) || decide (y_3.2 ≠ 0) || decide (Int.ofNat (List.length
  y_3.1) > Int.ofNat (List.length x.2.1.2)))) (c_law07_areJobs (x.2.1.2, y_3.1)) false) fun y_4 => if (decide (y.2 ≠ 0) || decide (y_2.2 ≠ 0) || decide
  (y_3.2 ≠ 0) || decide (Int.ofNat (List.length y_3.1) > Int.ofNat (List.length x.2.1.2)) || !y_4) = true then M.pure false else M.req (c_ref07_Done
  (x.1, x.2.1.1, x.2.1.2, y_2.1)).safe (M.req ((!decide (M.val (c_ref07_Done (x.1, x.2.1.1, x.2.1.2, y_2.1)) 0 ≠ y.1)) = true → ((!decide (M.val
  (c_ref07_Done (x.1, x.2.1.1, x.2.1.2, y_2.1)) 0 ≠ y.1)) = true ∧ (!decide (M.val (c_ref07_Done (x.1, x.2.1.1, x.2.1.2, y_2.1)) 0 ≠ y.1)) = true ∧
  (!decide (M.val (c_ref07_Done (x.1, x.2.1.1, x.2.1.2, y_2.1)) 0 ≠ y.1)) = true ∧ True) ∧ (c_law07_lacks (x.1, x.2.1, y_3.1)).safe ∧ True) (M.req
  ((!decide (M.val (c_ref07_Done (x.1, x.2.1.1, x.2.1.2, y_2.1)) 0 ≠ y.1)) = true → (!decide (M.val (c_ref07_Done (x.1, x.2.1.1, x.2.1.2, y_2.1)) 0 ≠
  y.1)) = true ∧ True ∧ True) (M.req ((!decide (M.val (c_ref07_Done (x.1, x.2.1.1, x.2.1.2, y_2.1)) 0 ≠ y.1)) = true → (!decide (M.val (c_ref07_Done
  (x.1, x.2.1.1, x.2.1.2, y_2.1)) 0 ≠ y.1)) = true ∧ True ∧ True) (M.req ((!decide (M.val (c_ref07_Done (x.1, x.2.1.1, x.2.1.2, y_2.1)) 0 ≠ y.1)) =
  true → ((!decide (M.val (c_ref07_Done (x.1, x.2.1.1, x.2.1.2, y_2.1)) 0 ≠ y.1)) = true ∧ (!decide (M.val (c_ref07_Done (x.1, x.2.1.1, x.2.1.2,
  y_2.1)) 0 ≠ y.1)) = true) ∧ True ∧ True) (M.req ((!decide (M.val (c_ref07_Done (x.1, x.2.1.1, x.2.1.2, y_2.1)) 0 ≠ y.1)) = true → ((!decide (M.val
  (c_ref07_Done (x.1, x.2.1.1, x.2.1.2, y_2.1)) 0 ≠ y.1)) = true ∧ (!decide (M.val (c_ref07_Done (x.1, x.2.1.1, x.2.1.2, y_2.1)) 0 ≠ y.1)) = true) ∧
  True ∧ True) (M.req (True ∧ (decide (M.val (c_ref07_Done (x.1, x.2.1.1, x.2.1.2, y_2.1)) 0 ≠ y.1) = false → (!decide (M.val (c_ref07_Done (x.1,
  x.2.1.1, x.2.1.2, y_2.1)) 0 ≠ y.1)) = true)) (if (decide (M.val (c_ref07_Done (x.1, x.2.1.1, x.2.1.2, y_2.1)) 0 ≠ y.1) || decide (M.val
  (c_law07_lacks (x.1, x.2.1, y_3.1)) 0 ≠ IntKind.wrap .i64 (Int.ofNat (List.length x.2.1.2) - y.1))) = true then M.pure false else M.req
  (c_law07_areJobs (x.2.1.2, x.2.2)).safe (M.req ((!!M.val (c_law07_areJobs (x.2.1.2, x.2.2)) false) = true → ((!!M.val (c_law07_areJobs (x.2.1.2,
  x.2.2)) false) = true ∧ (!!M.val (c_law07_areJobs (x.2.1.2, x.2.2)) false) = true ∧ (!!M.val (c_law07_areJobs (x.2.1.2, x.2.2)) false) = true ∧ True)
  ∧ (c_law07_lacks x).safe ∧ True) (M.req ((!!M.val (c_law07_areJobs (x.2.1.2, x.2.2)) false) = true → (!!M.val (c_law07_areJobs (x.2.1.2, x.2.2))
  false) = true ∧ True ∧ True) (M.req ((!!M.val (c_law07_areJobs (x.2.1.2, x.2.2)) false) = true → (!!M.val (c_law07_areJobs (x.2.1.2, x.2.2)) false) =
  true ∧ True ∧ True) (M.req ((!!M.val (c_law07_areJobs (x.2.1.2, x.2.2)) false) = true → ((!!M.val (c_law07_areJobs (x.2.1.2, x.2.2)) false) = true ∧
  (!!M.val (c_law07_areJobs (x.2.1.2, x.2.2)) false) = true) ∧ True ∧ True) (M.req ((!!M.val (c_law07_areJobs (x.2.1.2, x.2.2)) false) = true →
  ((!!M.val (c_law07_areJobs (x.2.1.2, x.2.2)) false) = true ∧ (!!M.val (c_law07_areJobs (x.2.1.2, x.2.2)) false) = true) ∧ True ∧ True) (M.req (True ∧
  ((!M.val (c_law07_areJobs (x.2.1.2, x.2.2)) false) = false → (!!M.val (c_law07_areJobs (x.2.1.2, x.2.2)) false) = true)) (M.req ((!M.val
  (c_law07_areJobs (x.2.1.2, x.2.2)) false || decide (M.val (c_law07_lacks x) 0 ≤ IntKind.wrap .i64 (Int.ofNat (List.length x.2.1.2) - y.1))) = true →
  True ∧ (c_law07_works ()).safe ∧ True) (M.req (True ∧ ((!M.val (c_law07_areJobs (x.2.1.2, x.2.2)) false || decide (M.val (c_law07_lacks x) 0 ≤
  IntKind.wrap .i64 (Int.ofNat (List.length x.2.1.2) - y.1))) = true → (!M.val (c_law07_areJobs (x.2.1.2, x.2.2)) false || decide (M.val (c_law07_lacks
  x) 0 ≤ IntKind.wrap .i64 (Int.ofNat (List.length x.2.1.2) - y.1))) = true)) (M.pure ((!M.val (c_law07_areJobs (x.2.1.2, x.2.2)) false || decide
  (M.val (c_law07_lacks x) 0 ≤ IntKind.wrap .i64 (Int.ofNat (List.length x.2.1.2) - y.1))) && M.val (c_law07_works ()) false)))))))))))))))))
noncomputable def S_law07_ready (c_law07_Far : List (Int × Int × Int × Int) × List (List (Int × List Int × Int × Int)) × Int × List (Int × Int × Int × Int) → M Bool) (c_ref07_Known : List (Int × Int × Int × Int) × List (List (Int × List Int × Int × Int)) × Int × List (Int × Int × Int × Int) → M Int) (x : List (Int × Int × Int × Int) × List (List (Int × List Int × Int × Int)) × Int × List (Int × Int × Int × Int)) : M Bool :=
  M.bind (c_law07_Far x) fun y => M.bind (gdo (!y) (c_ref07_Known x) 0) fun y_1 => M.pure (!y && decide (y_1 = 0))
noncomputable def S_law07_works (c_parts_Fewest : List (Int × Int × Int × Int) × List (List (Int × List Int × Int × Int)) × Int × List (Int × Int × Int × Int) → M (Int × Int)) (c_parts_Needed : List (Int × Int × Int × Int) × List (List (Int × List Int × Int × Int)) × Int × List (Int × Int × Int × Int) → M (List Int × Int)) (c_parts_Most : Wsh × List Int × List (Int × Int) → M (Int × Int)) (c_law07_sameInts : List Int × List Int → M Bool) (c_parts_Length : Wsh × Int → M ((Int × Int) × Int)) (c_law07_Example : Unit → M Wsh) (c_law07_Jobs : Unit → M (List (Int × Int))) (x : Unit) : M Bool :=
  M.bind (c_law07_Example ()) fun y => M.bind (c_parts_Length (y, 0)) fun y_1 => M.bind (c_parts_Fewest y) fun y_2 => M.req (c_law07_Jobs ()).safe
  (M.req (c_parts_Most (y, [1, 0, 1, 1], M.val (c_law07_Jobs ()) [])).safe (M.bind (c_parts_Needed y) fun y_3 => M.bind (gdo (decide (y_1.2 = 0) &&
  decide (y_2.2 = 0) && decide ((M.val (c_parts_Most (y, [1, 0, 1, 1], M.val (c_law07_Jobs ()) [])) (0, 0)).2 = 0) && decide (y_3.2 = 0) && (decide
  (y_1.1.1 = 300) && decide (y_1.1.2 = 309)) && decide (y_2.1 = 3) && decide ((M.val (c_parts_Most (y, [1, 0, 1, 1], M.val (c_law07_Jobs ()) [])) (0,
  0)).1 = 3)) (c_law07_sameInts (y_3.1, [2, 3])) false) fun y_4 => M.pure (decide (y_1.2 = 0) && decide (y_2.2 = 0) && decide ((M.val (c_parts_Most (y,
  [1, 0, 1, 1], M.val (c_law07_Jobs ()) [])) (0, 0)).2 = 0) && decide (y_3.2 = 0) && (decide (y_1.1.1 = 300) && decide (y_1.1.2 = 309)) && decide
  (y_2.1 = 3) && decide ((M.val (c_parts_Most (y, [1, 0, 1, 1], M.val (c_law07_Jobs ()) [])) (0, 0)).1 = 3) && y_4)))
noncomputable def S_law07_sameInts  (x : List Int × List Int) : M Bool :=
  if decide (Int.ofNat (List.length x.1) ≠ Int.ofNat (List.length x.2)) = true then M.pure false else M.bind (M.loop (fun (σ : List Int × List Int ×
  Int × Unit) => if decide (σ.2.2.1 < Int.ofNat (List.length σ.1)) = true then M.req (0 ≤ σ.2.2.1 ∧ σ.2.2.1 < Int.ofNat (List.length σ.1)) (M.req (0 ≤
  σ.2.2.1 ∧ σ.2.2.1 < Int.ofNat (List.length σ.2.1)) (if decide (List.getD σ.1 (Int.toNat σ.2.2.1) 0 ≠ List.getD σ.2.1 (Int.toNat σ.2.2.1) 0) = true
  then M.bind (M.bind (M.pure false) fun r => M.pure (Step.done r)) fun r => M.pure (Step.done r) else M.pure (Step.next (σ.1, σ.2.1, IntKind.wrap .i64
  (Add.add σ.2.2.1 1), ())))) else M.bind (M.pure (Step.next ())) fun r => M.pure (Step.done r)) (x.1, x.2, 0, ())) (Step.go fun (σ : Unit) => M.pure
  true)
noncomputable def S_law07_Far (c_ref07_Check : List (Int × Int × Int × Int) × List (List (Int × List Int × Int × Int)) × Int × List (Int × Int × Int × Int) → M Int) (x : List (Int × Int × Int × Int) × List (List (Int × List Int × Int × Int)) × Int × List (Int × Int × Int × Int)) : M Bool :=
  if (decide (Int.ofNat (List.length x.1) > 40) || decide (Int.ofNat (List.length x.2.1) > 40) || decide (Int.ofNat (List.length x.2.2.2) > 60)) = true
  then M.pure true else M.bind (M.loop (fun (σ : Int × Wsh × Unit) => if decide (σ.1 < Int.ofNat (List.length σ.2.1.2.1)) = true then M.bind (M.req (0
  ≤ σ.1 ∧ σ.1 < Int.ofNat (List.length σ.2.1.2.1)) (if decide (Int.ofNat (List.length (List.getD σ.2.1.2.1 (Int.toNat σ.1) [])) > 20) = true then
  M.bind (M.bind (M.bind (M.pure true) fun r => M.pure (Step.done r)) fun r => M.pure (Step.done r)) fun r => M.pure (Step.done r) else M.loop (fun (σ
  : Int × Int × Wsh × Unit) => M.req (0 ≤ σ.1 ∧ σ.1 < Int.ofNat (List.length σ.2.2.1.2.1)) (if decide (σ.2.1 < Int.ofNat (List.length (List.getD
  σ.2.2.1.2.1 (Int.toNat σ.1) []))) = true then M.req (0 ≤ σ.1 ∧ σ.1 < Int.ofNat (List.length σ.2.2.1.2.1)) (M.req (0 ≤ σ.2.1 ∧ σ.2.1 < Int.ofNat
  (List.length (List.getD σ.2.2.1.2.1 (Int.toNat σ.1) []))) (if decide (Int.ofNat (List.length (List.getD (List.getD σ.2.2.1.2.1 (Int.toNat σ.1) [])
  (Int.toNat σ.2.1) (0, [], 0, 0)).2.1) > 20) = true then M.bind (M.bind (M.bind (M.bind (M.pure true) fun r => M.pure (Step.done r)) fun r => M.pure
  (Step.done r)) fun r => M.pure (Step.done r)) fun r => M.pure (Step.done r) else M.pure (Step.next (σ.1, IntKind.wrap .i64 (Add.add σ.2.1 1),
  σ.2.2.1, ())))) else M.bind (M.pure (Step.next (σ.1, σ.2.2.1, ()))) fun r => M.pure (Step.done r))) (σ.1, 0, σ.2.1, ()))) (Step.go fun (σ : Int × Wsh
  × Unit) => M.pure (Step.next (IntKind.wrap .i64 (Add.add σ.1 1), σ.2.1, ()))) else M.bind (M.pure (Step.next (σ.2.1, ()))) fun r => M.pure (Step.done
  r)) (0, x, ())) (Step.go fun (σ : Wsh × Unit) => M.bind (c_ref07_Check σ.1) fun y => if decide (y ≠ 0) = true then M.pure false else M.bind (M.loop
  (fun (σ : Int × Wsh × Unit) => if decide (σ.1 < Int.ofNat (List.length σ.2.1.1)) = true then M.req (0 ≤ σ.1 ∧ σ.1 < Int.ofNat (List.length σ.2.1.1))
  (M.req (0 ≤ σ.1 ∧ σ.1 < Int.ofNat (List.length σ.2.1.1)) (if decide (IntKind.wrap .i64 ((List.getD σ.2.1.1 (Int.toNat σ.1) (0, 0, 0, 0)).2.2.2 -
  (List.getD σ.2.1.1 (Int.toNat σ.1) (0, 0, 0, 0)).2.2.1) ≥ 50) = true then M.bind (M.bind (M.pure true) fun r => M.pure (Step.done r)) fun r => M.pure
  (Step.done r) else M.pure (Step.next (IntKind.wrap .i64 (Add.add σ.1 1), σ.2.1, ())))) else M.bind (M.pure (Step.next (σ.2.1, ()))) fun r => M.pure
  (Step.done r)) (0, σ.1, ())) (Step.go fun (σ : Wsh × Unit) => M.pure (decide (Int.ofNat (List.length σ.1.1) > 6) || decide (Int.ofNat (List.length
  σ.1.2.1) > 4) || decide (Int.ofNat (List.length σ.1.2.2.2) > 10))))
noncomputable def S_law07_same (c_law07_sameInts : List Int × List Int → M Bool) (x : Wsh × Wsh) : M Bool :=
  if (decide (Int.ofNat (List.length x.1.1) ≠ Int.ofNat (List.length x.2.1)) || decide (Int.ofNat (List.length x.1.2.2.2) ≠ Int.ofNat (List.length
  x.2.2.2.2)) || decide (Int.ofNat (List.length x.1.2.1) ≠ Int.ofNat (List.length x.2.2.1)) || decide (x.1.2.2.1 ≠ x.2.2.2.1)) = true then M.pure false
  else M.bind (M.loop (fun (σ : Int × Wsh × Wsh × Unit) => if decide (σ.1 < Int.ofNat (List.length σ.2.1.1)) = true then M.req (0 ≤ σ.1 ∧ σ.1 <
  Int.ofNat (List.length σ.2.1.1)) (M.req (0 ≤ σ.1 ∧ σ.1 < Int.ofNat (List.length σ.2.2.1.1)) (if (!(decide ((List.getD σ.2.1.1 (Int.toNat σ.1) (0, 0,
  0, 0)).1 = (List.getD σ.2.2.1.1 (Int.toNat σ.1) (0, 0, 0, 0)).1) && (decide ((List.getD σ.2.1.1 (Int.toNat σ.1) (0, 0, 0, 0)).2.1 = (List.getD
  σ.2.2.1.1 (Int.toNat σ.1) (0, 0, 0, 0)).2.1) && (decide ((List.getD σ.2.1.1 (Int.toNat σ.1) (0, 0, 0, 0)).2.2.1 = (List.getD σ.2.2.1.1 (Int.toNat
  σ.1) (0, 0, 0, 0)).2.2.1) && decide ((List.getD σ.2.1.1 (Int.toNat σ.1) (0, 0, 0, 0)).2.2.2 = (List.getD σ.2.2.1.1 (Int.toNat σ.1) (0, 0, 0,
  0)).2.2.2))))) = true then M.bind (M.bind (M.pure false) fun r => M.pure (Step.done r)) fun r => M.pure (Step.done r) else M.pure (Step.next
  (IntKind.wrap .i64 (Add.add σ.1 1), σ.2.1, σ.2.2.1, ())))) else M.bind (M.pure (Step.next (σ.2.1, σ.2.2.1, ()))) fun r => M.pure (Step.done r)) (0,
  x.1, x.2, ())) (Step.go fun (σ : Wsh × Wsh × Unit) => M.bind (M.loop (fun (σ : Int × Wsh × Wsh × Unit) => if decide (σ.1 < Int.ofNat (List.length
  σ.2.1.2.2.2)) = true then M.req (0 ≤ σ.1 ∧ σ.1 < Int.ofNat (List.length σ.2.1.2.2.2)) (M.req (0 ≤ σ.1 ∧ σ.1 < Int.ofNat (List.length σ.2.2.1.2.2.2))
  (if (!(decide ((List.getD σ.2.1.2.2.2 (Int.toNat σ.1) (0, 0, 0, 0)).1 = (List.getD σ.2.2.1.2.2.2 (Int.toNat σ.1) (0, 0, 0, 0)).1) && (decide
  ((List.getD σ.2.1.2.2.2 (Int.toNat σ.1) (0, 0, 0, 0)).2.1 = (List.getD σ.2.2.1.2.2.2 (Int.toNat σ.1) (0, 0, 0, 0)).2.1) && (decide ((List.getD
  σ.2.1.2.2.2 (Int.toNat σ.1) (0, 0, 0, 0)).2.2.1 = (List.getD σ.2.2.1.2.2.2 (Int.toNat σ.1) (0, 0, 0, 0)).2.2.1) && decide ((List.getD σ.2.1.2.2.2
  (Int.toNat σ.1) (0, 0, 0, 0)).2.2.2 = (List.getD σ.2.2.1.2.2.2 (Int.toNat σ.1) (0, 0, 0, 0)).2.2.2))))) = true then M.bind (M.bind (M.pure false) fun r
  => M.pure (Step.done r)) fun r => M.pure (Step.done r) else M.pure (Step.next (IntKind.wrap .i64 (Add.add σ.1 1), σ.2.1, σ.2.2.1, ())))) else M.bind
  (M.pure (Step.next (σ.2.1, σ.2.2.1, ()))) fun r => M.pure (Step.done r)) (0, σ.1, σ.2.1, ())) (Step.go fun (σ : Wsh × Wsh × Unit) => M.bind (M.loop
  (fun (σ : Int × Wsh × Wsh × Unit) => if decide (σ.1 < Int.ofNat (List.length σ.2.1.2.1)) = true then M.bind (M.req (0 ≤ σ.1 ∧ σ.1 < Int.ofNat
  (List.length σ.2.1.2.1)) (M.req (0 ≤ σ.1 ∧ σ.1 < Int.ofNat (List.length σ.2.2.1.2.1)) (if decide (Int.ofNat (List.length (List.getD σ.2.1.2.1
  (Int.toNat σ.1) [])) ≠ Int.ofNat (List.length (List.getD σ.2.2.1.2.1 (Int.toNat σ.1) []))) = true then M.bind (M.bind (M.bind (M.pure false) fun r =>
  M.pure (Step.done r)) fun r => M.pure (Step.done r)) fun r => M.pure (Step.done r) else M.loop (fun (σ : Int × Int × Wsh × Wsh × Unit) => M.req (0 ≤
  σ.1 ∧ σ.1 < Int.ofNat (List.length σ.2.2.1.2.1)) (if decide (σ.2.1 < Int.ofNat (List.length (List.getD σ.2.2.1.2.1 (Int.toNat σ.1) []))) = true then
  M.req (0 ≤ σ.1 ∧ σ.1 < Int.ofNat (List.length σ.2.2.1.2.1)) (M.req (0 ≤ σ.2.1 ∧ σ.2.1 < Int.ofNat (List.length (List.getD σ.2.2.1.2.1 (Int.toNat σ.1)
  []))) (M.req (0 ≤ σ.1 ∧ σ.1 < Int.ofNat (List.length σ.2.2.2.1.2.1)) (M.req (0 ≤ σ.2.1 ∧ σ.2.1 < Int.ofNat (List.length (List.getD σ.2.2.2.1.2.1
  (Int.toNat σ.1) []))) (M.bind (gdo (!(decide ((List.getD (List.getD σ.2.2.1.2.1 (Int.toNat σ.1) []) (Int.toNat σ.2.1) (0, [], 0, 0)).1 ≠ (List.getD
  (List.getD σ.2.2.2.1.2.1 (Int.toNat σ.1) []) (Int.toNat σ.2.1) (0, [], 0, 0)).1) || !(decide ((List.getD (List.getD σ.2.2.1.2.1 (Int.toNat σ.1) [])
  (Int.toNat σ.2.1) (0, [], 0, 0)).2.2.1 = (List.getD (List.getD σ.2.2.2.1.2.1 (Int.toNat σ.1) []) (Int.toNat σ.2.1) (0, [], 0, 0)).2.2.1) && decide
  ((List.getD (List.getD σ.2.2.1.2.1 (Int.toNat σ.1) []) (Int.toNat σ.2.1) (0, [], 0, 0)).2.2.2 = (List.getD (List.getD σ.2.2.2.1.2.1 (Int.toNat σ.1)
  []) (Int.toNat σ.2.1) (0, [], 0, 0)).2.2.2)))) (c_law07_sameInts ((List.getD (List.getD σ.2.2.1.2.1 (Int.toNat σ.1) []) (Int.toNat σ.2.1) (0, [], 0,
  0)).2.1, (List.getD (List.getD σ.2.2.2.1.2.1 (Int.toNat σ.1) []) (Int.toNat σ.2.1) (0, [], 0, 0)).2.1)) false) fun y => if (decide ((List.getD
  (List.getD σ.2.2.1.2.1 (Int.toNat σ.1) []) (Int.toNat σ.2.1) (0, [], 0, 0)).1 ≠ (List.getD (List.getD σ.2.2.2.1.2.1 (Int.toNat σ.1) []) (Int.toNat
  σ.2.1) (0, [], 0, 0)).1) || !(decide ((List.getD (List.getD σ.2.2.1.2.1 (Int.toNat σ.1) []) (Int.toNat σ.2.1) (0, [], 0, 0)).2.2.1 = (List.getD
  (List.getD σ.2.2.2.1.2.1 (Int.toNat σ.1) []) (Int.toNat σ.2.1) (0, [], 0, 0)).2.2.1) && decide ((List.getD (List.getD σ.2.2.1.2.1 (Int.toNat σ.1) [])
  (Int.toNat σ.2.1) (0, [], 0, 0)).2.2.2 = (List.getD (List.getD σ.2.2.2.1.2.1 (Int.toNat σ.1) []) (Int.toNat σ.2.1) (0, [], 0, 0)).2.2.2)) || !y) =
  true then M.bind (M.bind (M.bind (M.bind (M.pure false) fun r => M.pure (Step.done r)) fun r => M.pure (Step.done r)) fun r => M.pure (Step.done r))
  fun r => M.pure (Step.done r) else M.pure (Step.next (σ.1, IntKind.wrap .i64 (Add.add σ.2.1 1), σ.2.2.1, σ.2.2.2.1, ())))))) else M.bind (M.pure
  (Step.next (σ.1, σ.2.2.1, σ.2.2.2.1, ()))) fun r => M.pure (Step.done r))) (σ.1, 0, σ.2.1, σ.2.2.1, ())))) (Step.go fun (σ : Int × Wsh × Wsh × Unit)
  => M.pure (Step.next (IntKind.wrap .i64 (Add.add σ.1 1), σ.2.1, σ.2.2.1, ()))) else M.bind (M.pure (Step.next ())) fun r => M.pure (Step.done r)) (0,
  σ.1, σ.2.1, ())) (Step.go fun (σ : Unit) => M.pure true)))
noncomputable def S_law07_isAsk (c_ref07_IsSpare : Wsh × Int → M Bool) (c_ref07_IsSlotOf : Wsh × Int × Int → M Bool) (x : Wsh × Int × Int × Int) : M Bool :=
  M.bind (c_ref07_IsSpare (x.1, x.2.1)) fun y => M.bind (gdo y (c_ref07_IsSlotOf (x.1, x.2.2)) false) fun y_1 => M.pure (y && y_1)
noncomputable def S_law07_agrees  (x : Int × Bool) : M Bool :=
  if decide (x.1 = 1) = true then M.pure x.2 else if decide (x.1 = 2) = true then M.pure !x.2 else M.pure (decide (x.1 = 3))
noncomputable def S_law07_all (c_parts_Mends : Wsh × List Int × Int → M (Int × Int)) (x : Wsh × List Int) : M Bool :=
  M.bind (M.loop (fun (σ : List Int × Int × Wsh × Unit) => if decide (σ.2.1 < Int.ofNat (List.length σ.2.2.1.2.1)) = true then M.bind (c_parts_Mends
  (σ.2.2.1, σ.1, σ.2.1)) fun y => if (decide (y.2 ≠ 0) || decide (y.1 ≠ 1)) = true then M.bind (M.bind (M.pure false) fun r => M.pure (Step.done r))
  fun r => M.pure (Step.done r) else M.pure (Step.next (σ.1, IntKind.wrap .i64 (Add.add σ.2.1 1), σ.2.2.1, ())) else M.bind (M.pure (Step.next ())) fun r
  => M.pure (Step.done r)) (x.2, 0, x.1, ())) (Step.go fun (σ : Unit) => M.pure true)
noncomputable def S_law07_subset (c_ref07_In : List Int × Int → M Bool) (x : List Int × List Int) : M Bool :=
  M.bind (M.loop (fun (σ : List Int × List Int × Int × Unit) => if decide (σ.2.2.1 < Int.ofNat (List.length σ.1)) = true then M.req (0 ≤ σ.2.2.1 ∧
  σ.2.2.1 < Int.ofNat (List.length σ.1)) (M.bind (c_ref07_In (σ.2.1, List.getD σ.1 (Int.toNat σ.2.2.1) 0)) fun y => if (!y) = true then M.bind (M.bind
  (M.pure false) fun r => M.pure (Step.done r)) fun r => M.pure (Step.done r) else M.pure (Step.next (σ.1, σ.2.1, IntKind.wrap .i64 (Add.add σ.2.2.1
  1), ()))) else M.bind (M.pure (Step.next ())) fun r => M.pure (Step.done r)) (x.1, x.2, 0, ())) (Step.go fun (σ : Unit) => M.pure true)
noncomputable def S_law07_areJobs (c_ref07_Ascending : List Int → M Bool) (x : List (Int × Int) × List Int) : M Bool :=
  M.bind (M.loop (fun (σ : List (Int × Int) × List Int × Int × Unit) => if decide (σ.2.2.1 < Int.ofNat (List.length σ.2.1)) = true then M.req (0 ≤
  σ.2.2.1 ∧ σ.2.2.1 < Int.ofNat (List.length σ.2.1)) (M.req ((!decide (List.getD σ.2.1 (Int.toNat σ.2.2.1) (0 : Int) < 0)) = true → ((!decide
  (List.getD σ.2.1 (Int.toNat σ.2.2.1) (0 : Int) < 0)) = true ∧ (!decide (List.getD σ.2.1 (Int.toNat σ.2.2.1) (0 : Int) < 0)) = true) ∧ (0 ≤ σ.2.2.1 ∧
  σ.2.2.1 < Int.ofNat (List.length σ.2.1)) ∧ True) (if (decide (List.getD σ.2.1 (Int.toNat σ.2.2.1) (0 : Int) < 0) || decide (List.getD σ.2.1
  (Int.toNat σ.2.2.1) 0 ≥ Int.ofNat (List.length σ.1))) = true then M.bind (M.bind (M.pure false) fun r => M.pure (Step.done r)) fun r => M.pure
  (Step.done r) else M.pure (Step.next (σ.1, σ.2.1, IntKind.wrap .i64 (Add.add σ.2.2.1 1), ())))) else M.bind (M.pure (Step.next (σ.2.1, ()))) fun r =>
  M.pure (Step.done r)) (x.1, x.2, 0, ())) (Step.go fun (σ : List Int × Unit) => M.bind (c_ref07_Ascending σ.1) fun y => M.pure y)
noncomputable def S_law07_lacks (c_parts_Fits : Wsh × Int × Int × Int → M (Int × Int)) (x : Wsh × (List Int × List (Int × Int)) × List Int) : M Int :=
  M.bind (M.loop (fun (σ : List Int × Int × Int × Wsh × (List Int × List (Int × Int)) × Unit) => if decide (σ.2.2.1 < Int.ofNat (List.length
  σ.2.2.2.2.1.1)) = true then M.bind (M.bind (M.loop (fun (σ : List Int × Int × Int × Bool × Int × Wsh × (List Int × List (Int × Int)) × Unit) => if
  decide (σ.2.2.2.2.1 < Int.ofNat (List.length σ.1)) = true then M.req (0 ≤ σ.2.2.2.2.1 ∧ σ.2.2.2.2.1 < Int.ofNat (List.length σ.1)) (M.req (0 ≤
  List.getD σ.1 (Int.toNat σ.2.2.2.2.1) 0 ∧ List.getD σ.1 (Int.toNat σ.2.2.2.2.1) 0 < Int.ofNat (List.length σ.2.2.2.2.2.2.1.2)) (M.req (0 ≤
  σ.2.2.2.2.1 ∧ σ.2.2.2.2.1 < Int.ofNat (List.length σ.1)) (M.req (0 ≤ List.getD σ.1 (Int.toNat σ.2.2.2.2.1) 0 ∧ List.getD σ.1 (Int.toNat σ.2.2.2.2.1)
  0 < Int.ofNat (List.length σ.2.2.2.2.2.2.1.2)) (M.req (c_parts_Fits (σ.2.2.2.2.2.1, σ.2.2.1, List.getD σ.2.2.2.2.2.2.1.2 (Int.toNat (List.getD σ.1
  (Int.toNat σ.2.2.2.2.1) 0)) (0, 0))).safe (M.pure (Step.next (σ.1, σ.2.1, σ.2.2.1, σ.2.2.2.1 || decide ((M.val (c_parts_Fits (σ.2.2.2.2.2.1, σ.2.2.1,
  List.getD σ.2.2.2.2.2.2.1.2 (Int.toNat (List.getD σ.1 (Int.toNat σ.2.2.2.2.1) 0)) (0, 0))) (0, 0)).2 = 0) && decide ((M.val (c_parts_Fits
  (σ.2.2.2.2.2.1, σ.2.2.1, List.getD σ.2.2.2.2.2.2.1.2 (Int.toNat (List.getD σ.1 (Int.toNat σ.2.2.2.2.1) 0)) (0, 0))) (0, 0)).1 = 1), IntKind.wrap .i64
  (Add.add σ.2.2.2.2.1 1), σ.2.2.2.2.2.1, σ.2.2.2.2.2.2.1, ()))))))) else M.bind (M.pure (Step.next (σ.1, σ.2.1, σ.2.2.1, σ.2.2.2.1, σ.2.2.2.2.2.1,
  σ.2.2.2.2.2.2.1, ()))) fun r => M.pure (Step.done r)) (σ.1, σ.2.1, σ.2.2.1, false, 0, σ.2.2.2.1, σ.2.2.2.2.1, ())) (Step.go fun (σ : List Int × Int ×
  Int × Bool × Wsh × (List Int × List (Int × Int)) × Unit) => if σ.2.2.2.1 = true then M.req (0 ≤ σ.2.2.1 ∧ σ.2.2.1 < Int.ofNat (List.length
  σ.2.2.2.2.2.1.1)) (M.pure (Step.next (σ.1, IntKind.wrap .i64 (σ.2.1 - List.getD σ.2.2.2.2.2.1.1 (Int.toNat σ.2.2.1) 0), σ.2.2.1, σ.2.2.2.2.1,
  σ.2.2.2.2.2.1, ()))) else M.pure (Step.next (σ.1, σ.2.1, σ.2.2.1, σ.2.2.2.2.1, σ.2.2.2.2.2.1, ())))) (Step.go fun (σ : List Int × Int × Int × Wsh ×
  (List Int × List (Int × Int)) × Unit) => M.pure (Step.next (σ.1, σ.2.1, IntKind.wrap .i64 (Add.add σ.2.2.1 1), σ.2.2.2.1, σ.2.2.2.2.1, ()))) else
  M.bind (M.pure (Step.next (σ.2.1, ()))) fun r => M.pure (Step.done r)) (x.2.2, Int.ofNat (List.length x.2.2), 0, x.1, x.2.1, ())) (Step.go fun (σ :
  Int × Unit) => M.pure σ.1)
noncomputable def S_law07_Example  (x : Unit) : M Wsh :=
  M.pure ([(1, 2, 300, 310), (1, 3, 305, 305), (2, 1, 50, 60), (1, 2, 320, 330)], [[(1, [2, 3], 300, 306), (2, [1], 40, 58)], [(1, [2], 310, 326)]], 5,
  [(0, 1, 0, 0)])
noncomputable def S_law07_Jobs  (x : Unit) : M (List (Int × Int)) :=
  M.pure [(0, 0), (0, 0), (0, 1), (1, 0)]
end Go.Fer
namespace Go.Fer
open M (Step)
set_option linter.unusedVariables false
set_option linter.unusedSimpArgs false
theorem wrap64 {n : Int} (h1 : -9223372036854775808 ≤ n) (h2 : n < 9223372036854775808) : IntKind.i64.wrap n = n := by
  show (if (true && decide (n % 2 ^ 64 ≥ (2 ^ (64 - 1) : Int))) = true then n % 2 ^ 64 - 2 ^ 64 else n % 2 ^ 64) = n
  have e1 : (2 : Int) ^ 64 = 18446744073709551616 := by decide
  have e2 : (2 : Int) ^ (64 - 1) = 9223372036854775808 := by decide
  simp only [Bool.true_and, decide_eq_true_eq, e1, e2]
  split <;> omega
theorem add_def (a b : Int) : Add.add a b = a + b := rfl
theorem add_defN (a b : Nat) : Add.add a b = a + b := rfl
theorem append_def {α : Type} (a b : List α) : Append.append a b = a ++ b := rfl
theorem ofNat_def (n : Nat) : Int.ofNat n = (n : Int) := rfl
theorem or_gdo {x c d : Bool} : (x || !(if (!x) = true then c else d)) = (x || !c) := by cases x <;> rfl
theorem or_gdo2 {x c d : Bool} : (x || (if (!x) = true then c else d)) = (x || c) := by cases x <;> rfl
theorem and_gdo {x c d : Bool} : (x && (if x = true then c else d)) = (x && c) := by cases x <;> rfl
namespace M
variable {α β γ σ ρ : Type}
theorem le_det {m : M α} {p : Prop} {v : α} (h : p → m = pure v) : le m (det p v) := fun hp => by
  rw [h hp]; exact ⟨trivial, fun _ hy => hy⟩
theorem le_detR {m : M α} {p : Prop} {v : α} (h : p → Ret m fun y => y = v) : le m (det p v) := fun hp => h hp
theorem val_det {p : Prop} {v d : α} : (det p v).val d = v := by
  unfold val
  have h : ∃ x, (det p v).out x := ⟨v, rfl⟩
  rw [dif_pos h]
  exact h.choose_spec
theorem val_pure {v d : α} : (pure v).val d = v := val_det (p := True)
theorem safe_det {p : Prop} {v : α} : (det p v).safe = p := rfl
theorem det_det {p : Prop} {v : α} : (det p v).Det := fun _ _ h k => h.trans k.symm
theorem pure_inj {x y : α} (h : pure x = pure y) : x = y := (congrArg (fun m : M α => m.out x) h).mp rfl
theorem gdo_det {g : Bool} {p : Prop} {v d : α} : gdo g (det p v) d = det (g = true → p) (if g = true then v else d) := by
  cases g
  · exact (det_true (by simp) _).symm
  · simp [gdo]
theorem gdo_pure {g : Bool} {v d : α} : gdo g (pure v) d = pure (if g = true then v else d) := by cases g <;> rfl
theorem go_next {f : σ → M β} {x : σ} : Step.go f (.next x : Step σ β) = f x := rfl
theorem go_done {f : σ → M β} {r : β} : Step.go f (.done r : Step σ β) = pure r := rfl
theorem ret_ite {c : Prop} [Decidable c] {m n : M α} {p : α → Prop} : Ret (if c then m else n) p ↔ (c → Ret m p) ∧ (¬ c → Ret n p) := by
  split <;> simp_all
theorem eq_of_ret {m : M α} {v : α} (h : Ret m fun y => y = v) (he : ∃ y, m.out y) : m = pure v := by
  obtain ⟨y, hy⟩ := he
  refine ext' (by simp [h.1]) fun x => ⟨fun hx => h.2 x hx, fun hx => ?_⟩
  rw [hx, ← h.2 y hy]; exact hy
end M
def foldS {α β ρ : Type} (f : α → β → Step β ρ) (fin : β → ρ) : List α → β → ρ
  | [], b => fin b
  | x :: l, b => match f x b with
    | .next b' => foldS f fin l b'
    | .done r => r
def Step.mapN {σ β ρ : Type} (g : β → σ) : Step β ρ → Step σ ρ
  | .next b => .next (g b)
  | .done r => .done r
theorem M.loop_list {α β σ ρ : Type} {body : σ → M (Step σ ρ)} {s0 : σ} (l : List α) (mk : Nat → β → σ) (f : α → β → Step β ρ) (fin : β → ρ) (I : Nat → β → Prop) (b : β) (hs0 : s0 = mk 0 b) (h0 : I 0 b)
    (hs : ∀ i (h : i < l.length) b, I i b → body (mk i b) = M.pure (Step.mapN (mk (i + 1)) (f l[i] b)) ∧ ∀ b', f l[i] b = .next b' → I (i + 1) b')
    (hf : ∀ b, I l.length b → body (mk l.length b) = M.pure (.done (fin b))) : M.loop body s0 = M.pure (foldS f fin l b) := by
  subst hs0
  have key : ∀ (k : Nat) (r : List α) (b : β), k ≤ l.length → r = l.drop k → I k b → M.loop body (mk k b) = M.pure (foldS f fin r b) := by
    intro k r
    induction r generalizing k with
    | nil =>
      intro b hk hr hI
      have : k = l.length := by have := congrArg List.length hr; simp at this; omega
      subst this
      exact M.loop_done (hf b hI)
    | cons x r ih =>
      intro b hk hr hI
      have hlt : k < l.length := by
        rcases Nat.lt_or_ge k l.length with h | h
        · exact h
        · rw [List.drop_eq_nil_of_le h] at hr; cases hr
      rw [List.drop_eq_getElem_cons hlt] at hr
      injection hr with hx hr
      obtain ⟨h1, h2⟩ := hs k hlt b hI
      rw [← hx] at h1 h2
      simp only [foldS]
      cases hf' : f x b with
      | next b' =>
        rw [hf'] at h1
        rw [M.loop_next h1]
        exact ih (k + 1) b' hlt hr (h2 b' hf')
      | done r' =>
        rw [hf'] at h1
        exact M.loop_done h1
  exact key 0 l b (Nat.zero_le _) rfl h0
theorem M.loop_listT {α β σ ρ : Type} {body : σ → M (Step σ ρ)} {s0 : σ} (l : List α) (mk : Nat → β → σ) (f : α → β → Step β ρ) (fin : β → ρ) (b : β) (hs0 : s0 = mk 0 b)
    (hs : ∀ i (h : i < l.length) b, body (mk i b) = M.pure (Step.mapN (mk (i + 1)) (f l[i] b)))
    (hf : ∀ b, body (mk l.length b) = M.pure (.done (fin b))) : M.loop body s0 = M.pure (foldS f fin l b) :=
  M.loop_list l mk f fin (fun _ _ => True) b hs0 trivial (fun i h b _ => ⟨hs i h b, fun _ _ => trivial⟩) fun b _ => hf b
section
variable {α β ρ : Type}
theorem foldS_any {p : α → Bool} {r : ρ} {fin : β → ρ} : ∀ (l : List α) (b : β), foldS (fun x b => if p x = true then .done r else .next b) fin l b = if l.any p = true then r else fin b
  | [], b => by simp [foldS]
  | x :: l, b => by
    simp only [foldS, List.any_cons, Bool.or_eq_true]
    by_cases h : p x = true
    · simp [h]
    · have h : p x = false := by simpa using h
      simp only [h, Bool.false_eq_true, if_false, false_or]; exact foldS_any l b
theorem foldS_all {p : α → Bool} {r : ρ} {fin : β → ρ} : ∀ (l : List α) (b : β), foldS (fun x b => if p x = true then .next b else .done r) fin l b = if l.all p = true then fin b else r
  | [], b => by simp [foldS]
  | x :: l, b => by
    simp only [foldS, List.all_cons, Bool.and_eq_true]
    by_cases h : p x = true
    · simp only [h, if_true, true_and]; exact foldS_all l b
    · simp [h]
theorem foldS_next {h : β → α → β} {fin : β → ρ} : ∀ (l : List α) (b : β), foldS (fun x b => .next (h b x)) fin l b = fin (l.foldl h b)
  | [], b => rfl
  | x :: l, b => by simp only [foldS, List.foldl_cons]; exact foldS_next l (h b x)
theorem foldl_filter_app {p : α → Bool} : ∀ (l : List α) (b : List α), l.foldl (fun b x => if p x = true then b ++ [x] else b) b = b ++ l.filter p
  | [], b => by simp
  | x :: l, b => by
    simp only [List.foldl_cons, List.filter_cons]
    rw [foldl_filter_app l]
    split <;> simp
theorem foldl_map_app {γ : Type} {g : α → γ} : ∀ (l : List α) (b : List γ), l.foldl (fun b x => b ++ [g x]) b = b ++ l.map g
  | [], b => by simp
  | x :: l, b => by simp only [List.foldl_cons, List.map_cons]; rw [foldl_map_app l]; simp
end
theorem any_not {α : Type} {p q : α → Bool} (h : ∀ x, p x = !q x) (l : List α) : l.any p = !l.all q := by
  rw [show p = fun x => !q x from funext h, List.not_all_eq_any_not]
theorem foldS_anyN {α β ρ : Type} {p q : α → Bool} {r : ρ} {fin : β → ρ} (l : List α) (b : β) (h : ∀ x, p x = !q x) : foldS (fun x b => if p x = true then .done r else .next b) fin l b = if l.all q = true then fin b else r := by
  rw [foldS_any, any_not h]
  cases l.all q <;> rfl
theorem fin_step {σ β ρ : Type} {c : Bool} {mk : β → σ} {b : β} {r : ρ} : (if c = true then M.pure (Step.done r) else M.pure (Step.next (mk b))) = M.pure (Step.mapN mk (if c = true then .done r else .next b)) := by cases c <;> rfl
theorem fin_step2 {σ β ρ : Type} {c : Bool} {mk : β → σ} {b : β} {r : ρ} : (if c = true then M.pure (Step.done r) else M.pure (Step.next (mk b))) = M.pure (Step.mapN mk (if c = true then .done r else .next b)) := by cases c <;> rfl
theorem lt_len {l : Nat} {i : Nat} (h : i < l) : decide ((i : Int) < (l : Int)) = true := by simpa using h
theorem in_len {l : Nat} {i : Nat} (h : i < l) : ((0 : Int) ≤ (i : Int) ∧ (i : Int) < (l : Int)) = True := by simp; omega
theorem getD_nat {α : Type} {l : List α} {i : Nat} {d : α} (h : i < l.length) : l.getD (Int.toNat (i : Int)) d = l[i] := by
  simp [List.getD_eq_getElem?_getD, h]
theorem getD_mem {α : Type} {l : List α} {i : Int} {d : α} (h0 : 0 ≤ i) (h : i < (l.length : Int)) : l.getD i.toNat d ∈ l := by
  have : i.toNat < l.length := by omega
  simp [List.getD_eq_getElem?_getD, this]
def intR (a b : Int) : List Int := (List.range (b - a + 1).toNat).map fun (i : Nat) => a + (i : Int)
theorem intR_length (a b : Int) : (intR a b).length = (b - a + 1).toNat := by simp [intR]
theorem intR_get {a b : Int} {i : Nat} (h : i < (intR a b).length) : (intR a b)[i] = a + i := by simp [intR]
theorem mem_intR {a b n : Int} : n ∈ intR a b ↔ a ≤ n ∧ n ≤ b := by
  simp only [intR, List.mem_map, List.mem_range]
  constructor
  · rintro ⟨i, h, rfl⟩; omega
  · rintro ⟨h1, h2⟩; exact ⟨(n - a).toNat, by omega, by omega⟩
end Go.Fer
namespace Go.Fer
open M (Step)
set_option linter.unusedVariables false
set_option linter.unusedSimpArgs false
abbrev tI : Ty := .int .i64
abbrev tB : Ty := .bool
abbrev tInts : Ty := .slice tI
abbrev tSpan : Ty := .st (.prod tI tI)
abbrev tSpare : Ty := .st (.prod tI (.prod tI tSpan))
abbrev tSlot : Ty := .st (.prod tI (.prod tInts tSpan))
abbrev tMake : Ty := .st (.slice tSlot)
abbrev tTrial : Ty := .st (.prod tI (.prod tI (.prod tI tI)))
abbrev tW : Ty := .st (.prod (.slice tSpare) (.prod (.slice tMake) (.prod tI (.slice tTrial))))
attribute [simp] or_gdo or_gdo2 and_gdo M.bind_det M.bind_req M.bind_ite M.val_det M.val_pure M.safe_det M.gdo_det M.gdo_pure M.go_next M.go_done add_def add_defN append_def Step.mapN
abbrev fcWithin : FC := ⟨.prod tI (.prod tI tI), tB, fun _ => True, fun x => decide (x.2.1 ≤ x.1) && decide (x.1 ≤ x.2.2)⟩
theorem sWithin (x) : M.le (S_ref07_Within x) (fcWithin.sh x) := M.le_det fun _ => rfl
abbrev fcIn : FC := ⟨.prod tInts tI, tB, fun x => x.1.length < 2 ^ 63, fun x => x.1.contains x.2⟩
theorem any_contains (l : List Int) (n : Int) : (l.any fun y => y == n) = l.contains n := by rw [Bool.eq_iff_iff]; simp
theorem eIn (l : List Int) (n : Int) (h : l.length < 2 ^ 63) : S_ref07_In (l, n) = M.pure (l.contains n) := by
  unfold S_ref07_In
  rw [M.loop_listT l (fun i (_ : Unit) => (l, n, (i : Int), ())) (fun y b => if (y == n) = true then .done (.done true) else .next b) (fun _ => .next ()) () ?_ ?_ ?_]
  · rw [foldS_any, any_contains]
    cases l.contains n <;> simp
  · rfl
  · intro i hi b
    have hw := wrap64 (n := (i : Int) + 1) (by omega) (by omega)
    simp [hi, hw]
    split <;> simp_all
  · intro b
    simp
theorem sIn (x) : M.le (S_ref07_In x) (fcIn.sh x) := M.le_det fun h => eIn x.1 x.2 h
abbrev Spr : Type := Int × Int × Int × Int
abbrev Slt : Type := Int × List Int × Int × Int
abbrev Trl : Type := Int × Int × Int × Int
def smallW (w : Wsh) : Prop := w.1.length < 2 ^ 63 ∧ w.2.1.length < 2 ^ 63 ∧ w.2.2.2.length < 2 ^ 63 ∧ ∀ m ∈ w.2.1, m.length < 2 ^ 63 ∧ ∀ s ∈ m, s.2.1.length < 2 ^ 63
def isSpareV (w : Wsh) (n : Int) : Bool := decide (0 ≤ n) && decide (n < (w.1.length : Int))
def isMakeV (w : Wsh) (n : Int) : Bool := decide (0 ≤ n) && decide (n < (w.2.1.length : Int))
def slotsOfV (w : Wsh) (m : Int) : List Slt := w.2.1.getD m.toNat []
def isSlotOfV (w : Wsh) (m k : Int) : Bool := isMakeV w m && (decide (0 ≤ k) && decide (k < ((slotsOfV w m).length : Int)))
theorem isSpareV_iff {w : Wsh} {n : Int} : isSpareV w n = true ↔ 0 ≤ n ∧ n < (w.1.length : Int) := by simp [isSpareV]
theorem isMakeV_iff {w : Wsh} {n : Int} : isMakeV w n = true ↔ 0 ≤ n ∧ n < (w.2.1.length : Int) := by simp [isMakeV]
theorem isSlotOfV_iff {w : Wsh} {m k : Int} : isSlotOfV w m k = true ↔ (0 ≤ m ∧ m < (w.2.1.length : Int)) ∧ 0 ≤ k ∧ k < ((slotsOfV w m).length : Int) := by simp [isSlotOfV, isMakeV]
theorem slots_small {w : Wsh} (hw : smallW w) (m : Int) : (slotsOfV w m).length < 2 ^ 63 := by
  unfold slotsOfV
  rw [List.getD_eq_getElem?_getD]
  cases h : w.2.1[m.toNat]? with
  | none => simp
  | some x => exact (hw.2.2.2 x (List.mem_of_getElem? h)).1
theorem le_pred (n m : Int) : decide (n ≤ m - 1) = decide (n < m) := by
  rw [decide_eq_decide]; omega
abbrev fcIsSpare : FC := ⟨.prod tW tI, tB, fun x => smallW x.1, fun x => isSpareV x.1 x.2⟩
theorem eIsSpare (w : Wsh) (n : Int) (h : smallW w) : S_ref07_IsSpare fcWithin.sh (w, n) = M.pure (isSpareV w n) := by
  unfold S_ref07_IsSpare
  have hl := h.1
  have hw := wrap64 (n := (w.1.length : Int) - 1) (by omega) (by omega)
  simp [FC.sh, fcWithin, hw, isSpareV, le_pred]
theorem sIsSpare (x) : M.le (S_ref07_IsSpare fcWithin.sh x) (fcIsSpare.sh x) := M.le_det fun h => eIsSpare x.1 x.2 h
abbrev fcIsMake : FC := ⟨.prod tW tI, tB, fun x => smallW x.1, fun x => isMakeV x.1 x.2⟩
theorem eIsMake (w : Wsh) (n : Int) (h : smallW w) : S_ref07_IsMake fcWithin.sh (w, n) = M.pure (isMakeV w n) := by
  unfold S_ref07_IsMake
  have hl := h.2.1
  have hw := wrap64 (n := (w.2.1.length : Int) - 1) (by omega) (by omega)
  simp [FC.sh, fcWithin, hw, isMakeV, le_pred]
theorem sIsMake (x) : M.le (S_ref07_IsMake fcWithin.sh x) (fcIsMake.sh x) := M.le_det fun h => eIsMake x.1 x.2 h
abbrev fcIsSlotOf : FC := ⟨.prod tW (.prod tI tI), tB, fun x => smallW x.1, fun x => isSlotOfV x.1 x.2.1 x.2.2⟩
theorem eIsSlotOf (w : Wsh) (m k : Int) (h : smallW w) : S_ref07_IsSlotOf fcWithin.sh fcIsMake.sh (w, m, k) = M.pure (isSlotOfV w m k) := by
  unfold S_ref07_IsSlotOf
  have hl := slots_small h m
  have hw := wrap64 (n := ((slotsOfV w m).length : Int) - 1) (by omega) (by omega)
  unfold slotsOfV at hw
  simp only [FC.sh, fcWithin, fcIsMake, M.bind_det, M.gdo_det, ofNat_def, hw, le_pred, M.req_true h]
  rw [M.req_true, M.req_true (by simp)]
  · simp only [isSlotOfV, slotsOfV]
    cases isMakeV w m <;> simp
  · intro hm
    exact ⟨⟨hm, hm⟩, isMakeV_iff.1 hm, trivial⟩
theorem sIsSlotOf (x) : M.le (S_ref07_IsSlotOf fcWithin.sh fcIsMake.sh x) (fcIsSlotOf.sh x) := M.le_det fun h => eIsSlotOf x.1 x.2.1 x.2.2 h
def isLengthV (s : Int × Int) : Bool := (decide (0 ≤ s.1) && decide (s.1 ≤ s.2)) && decide (s.2 ≤ 999)
abbrev fcIsLength : FC := ⟨tSpan, tB, fun _ => True, isLengthV⟩
theorem eIsLength (s : Int × Int) : S_ref07_isLength fcWithin.sh s = M.pure (isLengthV s) := by
  unfold S_ref07_isLength
  simp [FC.sh, fcWithin, isLengthV]
theorem sIsLength (x) : M.le (S_ref07_isLength fcWithin.sh x) (fcIsLength.sh x) := M.le_det fun _ => eIsLength x
def ascV (l : List Int) : Bool := (List.range (l.length - 1)).all fun i => decide (l.getD i 0 < l.getD (i + 1) 0)
abbrev fcAscending : FC := ⟨tInts, tB, fun x => x.length < 2 ^ 63, ascV⟩
theorem eAscending (l : List Int) (h : l.length < 2 ^ 63) : S_ref07_Ascending l = M.pure (ascV l) := by
  unfold S_ref07_Ascending
  rw [M.loop_listT (List.range (l.length - 1)) (fun i (_ : Unit) => (l, ((i + 1 : Nat) : Int), ())) (fun i b => if (decide (l.getD i 0 < l.getD (i + 1) 0)) = true then .next b else .done (.done false)) (fun _ => .next ()) () ?_ ?_ ?_]
  · rw [foldS_all]
    unfold ascV
    cases (List.range (l.length - 1)).all fun i => decide (l.getD i 0 < l.getD (i + 1) 0) <;> simp
  · simp
  · intro i hi b
    have hi' : i + 1 < l.length := by simp at hi; omega
    have hw := wrap64 (n := (i : Int) + 1 + 1) (by omega) (by omega)
    have hw2 := wrap64 (n := (i : Int) + 1 - 1) (by omega) (by omega)
    have e1 : ((i : Int) + 1).toNat = i + 1 := by omega
    have e2 : ((i : Int) + 1 - 1).toNat = i := by omega
    have r1 : (0 : Int) ≤ (i : Int) + 1 ∧ (i : Int) + 1 < (l.length : Int) := by omega
    have r2 : (0 : Int) ≤ (i : Int) + 1 - 1 ∧ (i : Int) + 1 - 1 < (l.length : Int) := by omega
    simp only [ofNat_def, Int.natCast_add, Int.cast_ofNat_Int, hw, hw2, r1, r2, M.req_true, e1, e2, add_def, List.getElem_range, decide_eq_true_eq, if_true, M.bind_pure, decide_true, and_self, Int.natCast_one]
    generalize l.getD i 0 = A
    generalize l.getD (i + 1) 0 = B
    by_cases hc : A < B
    · simp [hc, Int.not_le.2 hc]
    · simp [hc, Int.not_lt.1 hc]
  · intro b
    have : ¬ (((List.range (l.length - 1)).length : Int) + 1 < (l.length : Int)) := by simp; omega
    simp [this]
    omega
theorem sAscending (x) : M.le (S_ref07_Ascending x) (fcAscending.sh x) := M.le_det fun h => eAscending x h
end Go.Fer
namespace Go.Fer
open M (Step)
set_option linter.unusedVariables false
set_option linter.unusedSimpArgs false
def markV (n : Int) : Bool := decide (0 ≤ n) && decide (n ≤ 9)
def slotV (s : Slt) : Bool := s.2.1.all markV && (markV s.1 && decide ((s.2.1.length : Int) ≤ 4) && ascV s.2.1 && isLengthV s.2.2)
def spareV (s : Spr) : Bool := markV s.1 && markV s.2.1 && isLengthV s.2.2
def trialV (w : Wsh) (t : Trl) : Bool := isSpareV w t.1 && isSlotOfV w t.2.1 t.2.2.1 && (decide (0 ≤ t.2.2.2) && decide (t.2.2.2 ≤ 1))
def makeV (m : List Slt) : Bool := !decide ((m.length : Int) > 4) && m.all slotV
def headV (w : Wsh) : Bool := !(decide ((w.1.length : Int) > 10) || decide ((w.2.1.length : Int) > 6) || !(decide (0 ≤ w.2.2.1) && decide (w.2.2.1 ≤ 99)) || decide ((w.2.2.2.length : Int) > 30))
def wV (w : Wsh) : Bool := headV w && w.1.all spareV && w.2.1.all makeV && w.2.2.2.all (trialV w)
abbrev fcIsSlot : FC := ⟨tSlot, tB, fun x => x.2.1.length < 2 ^ 63, slotV⟩
theorem eIsSlot (s : Slt) (h : s.2.1.length < 2 ^ 63) : S_ref07_isSlot fcAscending.sh fcWithin.sh fcIsLength.sh s = M.pure (slotV s) := by
  unfold S_ref07_isSlot
  rw [M.loop_listT s.2.1 (fun i (_ : Unit) => ((i : Int), s, ())) (fun n b => if markV n = true then .next b else .done (.done false)) (fun _ => .next (s, ())) () ?_ ?_ ?_]
  · rw [foldS_all]
    unfold slotV
    cases s.2.1.all markV with
    | false => simp
    | true =>
      simp only [FC.sh, fcWithin, fcAscending, fcIsLength, M.req_true h, markV, if_true, M.bind_pure, M.go_next, M.bind_det, M.gdo_det, M.req_True, ofNat_def, h, implies_true, Bool.true_and]
      congr 1
      cases decide (0 ≤ s.1) <;> cases decide (s.1 ≤ 9) <;> cases decide ((s.2.1.length : Int) ≤ 4) <;> cases ascV s.2.1 <;> simp
  · rfl
  · intro i hi b
    have hw := wrap64 (n := (i : Int) + 1) (by omega) (by omega)
    simp [FC.sh, fcWithin, hi, hw, markV]
    grind
  · intro b
    simp
theorem sIsSlot (x) : M.le (S_ref07_isSlot fcAscending.sh fcWithin.sh fcIsLength.sh x) (fcIsSlot.sh x) := M.le_det fun h => eIsSlot x h
abbrev fcIsWorkshop : FC := ⟨tW, tB, smallW, wV⟩
theorem eIsWorkshop (w : Wsh) (h : smallW w) : S_ref07_isWorkshop fcIsSpare.sh fcIsSlotOf.sh fcWithin.sh fcIsLength.sh fcIsSlot.sh w = M.pure (wV w) := by
  have hs := h
  obtain ⟨h1, h2, h3, h4⟩ := h
  unfold S_ref07_isWorkshop
  simp only [FC.sh, fcWithin, M.gdo_det, M.bind_det, implies_true, M.req_True, ofNat_def, or_gdo]
  split
  · rename_i hc
    have : headV w = false := by unfold headV; grind
    simp [wV, this]
  · rename_i hc
    have hh : headV w = true := by unfold headV; grind
    have hl4 : w.2.1.length ≤ 6 := by simp [headV] at hh; omega
    rw [M.loop_listT w.1 (fun i (_ : Unit) => ((i : Int), w, ())) (fun n b => if (!markV n.1 || !markV n.2.1 || !isLengthV n.2.2) = true then .done (.done false) else .next b) (fun _ => .next (w, ())) () ?_ ?_ ?_]
    · rw [foldS_anyN (q := spareV) _ _ (fun t => by simp only [spareV, Bool.not_and])]
      cases hA : w.1.all spareV with
      | false => simp [wV, hA]
      | true =>
        simp only [M.bind_pure, if_true, M.go_next]
        rw [M.loop_listT w.2.1 (fun i (_ : Unit) => ((i : Int), w, ())) (fun m b => if makeV m = true then .next b else .done (.done false)) (fun _ => .next (w, ())) () ?_ ?_ ?_]
        · rw [foldS_all]
          cases hB : w.2.1.all makeV with
          | false => simp [wV, hB]
          | true =>
            simp only [M.bind_pure, if_true, M.go_next]
            rw [M.loop_listT w.2.2.2 (fun i (_ : Unit) => ((i : Int), w, ())) (fun t b => if (!isSpareV w t.1 || !isSlotOfV w t.2.1 t.2.2.1 || !(decide (0 ≤ t.2.2.2) && decide (t.2.2.2 ≤ 1))) = true then .done (.done false) else .next b) (fun _ => .next ()) () ?_ ?_ ?_]
            · rw [foldS_anyN (q := trialV w) _ _ (fun t => by simp only [trialV, Bool.not_and])]
              cases hC : w.2.2.2.all (trialV w) <;> simp [wV, hA, hB, hC, hh]
            · rfl
            · intro i hi b
              have hw := wrap64 (n := (i : Int) + 1) (by omega) (by omega)
              simp only [ofNat_def, lt_len hi, if_true, getD_nat hi, in_len hi, M.req_True, FC.sh, fcIsSpare, fcIsSlotOf, M.bind_det, M.gdo_det, hs, implies_true, or_gdo, M.bind_pure, add_def, hw]
              exact fin_step (mk := fun _ : Unit => ((i : Int) + 1, w, ()))
            · intro b
              simp
        · rfl
        · intro i hi b
          have hw := wrap64 (n := (i : Int) + 1) (by omega) (by omega)
          obtain ⟨hm1, hm2⟩ := h4 w.2.1[i] (List.getElem_mem hi)
          simp only [ofNat_def, Int.ofNat_lt, hi, decide_true, if_true, getD_nat hi, Int.natCast_nonneg, and_self, M.req_True]
          by_cases hlen : (w.2.1[i].length : Int) > 4
          · simp [hlen, makeV]
          · simp only [hlen, decide_false, Bool.false_eq_true, if_false]
            rw [M.loop_listT w.2.1[i] (fun k (_ : Unit) => ((i : Int), (k : Int), w, ())) (fun s b => if (!slotV s) = true then .done (.done (.done (.done false))) else .next b) (fun _ => .next ((i : Int), w, ())) () ?_ ?_ ?_]
            · rw [foldS_anyN (q := slotV) _ _ (fun _ => rfl)]
              cases hD : w.2.1[i].all slotV <;> simp [makeV, hD, hlen, hw]
            · rfl
            · intro k hk b
              have hwk := wrap64 (n := (k : Int) + 1) (by omega) (by omega)
              have hsm := hm2 w.2.1[i][k] (List.getElem_mem hk)
              simp only [ofNat_def, lt_len hk, lt_len hi, if_true, getD_nat hi, getD_nat hk, in_len hi, in_len hk, M.req_True, fcIsSlot, M.bind_det, hsm, M.req_true hsm, M.bind_pure, add_def, hwk]
              exact fin_step (mk := fun _ : Unit => ((i : Int), (k : Int) + 1, w, ()))
            · intro b
              simp [hi]
        · intro b
          simp
    · rfl
    · intro i hi b
      have hw := wrap64 (n := (i : Int) + 1) (by omega) (by omega)
      simp only [ofNat_def, lt_len hi, if_true, getD_nat hi, in_len hi, M.req_True, FC.sh, fcIsLength, M.bind_det, M.gdo_det, implies_true, or_gdo, M.bind_pure, add_def, hw, Bool.not_not]
      exact fin_step (mk := fun _ : Unit => ((i : Int) + 1, w, ()))
    · intro b
      simp
theorem sIsWorkshop (x) : M.le (S_ref07_isWorkshop fcIsSpare.sh fcIsSlotOf.sh fcWithin.sh fcIsLength.sh fcIsSlot.sh x) (fcIsWorkshop.sh x) := M.le_det fun h => eIsWorkshop x h
end Go.Fer
namespace Go.Fer
open M (Step)
set_option linter.unusedVariables false
set_option linter.unusedSimpArgs false
abbrev dTrl : Trl := (0, 0, 0, 0)
def clash (a b : Trl) : Bool := decide (a.1 = b.1) && decide (a.2.1 = b.2.1) && decide (a.2.2.1 = b.2.2.1) && decide (a.2.2.2 ≠ b.2.2.2)
def tabOk (l : List Trl) : Bool := (List.range l.length).all fun i => (List.range i).all fun k => !clash (l.getD k dTrl) (l.getD i dTrl)
def checkV (w : Wsh) : Int := if wV w = true then (if tabOk w.2.2.2 = true then 0 else 71) else 70
theorem nat_in {a b : Nat} (h : a < b) : ((0 : Int) ≤ (a : Int) ∧ (a : Int) < (b : Int)) = True := in_len h
abbrev fcCheck : FC := ⟨tW, tI, smallW, checkV⟩
theorem eCheck (w : Wsh) (h : smallW w) : S_ref07_Check fcIsWorkshop.sh w = M.pure (checkV w) := by
  have hs := h
  obtain ⟨h1, h2, h3, h4⟩ := h
  unfold S_ref07_Check
  simp only [FC.sh, fcIsWorkshop, M.bind_det, M.req_true hs]
  unfold checkV
  cases hw : wV w with
  | false => simp
  | true =>
    simp only [Bool.not_true, Bool.false_eq_true, if_false, if_true]
    rw [M.loop_listT (List.range w.2.2.2.length) (fun i (_ : Unit) => ((i : Int), w, ())) (fun i b => if (List.range i).any (fun k => clash (w.2.2.2.getD k dTrl) (w.2.2.2.getD i dTrl)) = true then .done (.done (71 : Int)) else .next b) (fun _ => .next ()) () ?_ ?_ ?_]
    · rw [foldS_anyN (q := fun i => (List.range i).all fun k => !clash (w.2.2.2.getD k dTrl) (w.2.2.2.getD i dTrl)) _ _ (fun i => any_not (fun k => by simp) _)]
      have e : ((List.range w.2.2.2.length).all fun i => (List.range i).all fun k => !clash (w.2.2.2.getD k dTrl) (w.2.2.2.getD i dTrl)) = tabOk w.2.2.2 := rfl
      rw [e]
      cases tabOk w.2.2.2 <;> simp
    · rfl
    · intro i hi b
      have hi : i < w.2.2.2.length := by simpa using hi
      have hwr := wrap64 (n := (i : Int) + 1) (by omega) (by omega)
      simp only [ofNat_def, lt_len hi, if_true, List.getElem_range]
      rw [M.loop_listT (List.range i) (fun k (_ : Unit) => ((i : Int), (k : Int), w, ())) (fun k b => if clash (w.2.2.2.getD k dTrl) (w.2.2.2.getD i dTrl) = true then .done (.done (.done (.done (71 : Int)))) else .next b) (fun _ => .next ((i : Int), w, ())) () ?_ ?_ ?_]
      · rw [foldS_any]
        cases (List.range i).any (fun k => clash (w.2.2.2.getD k dTrl) (w.2.2.2.getD i dTrl)) <;> simp [hwr]
      · rfl
      · intro k hk b
        have hk : k < i := by simpa using hk
        have hk2 : k < w.2.2.2.length := by omega
        have hwk := wrap64 (n := (k : Int) + 1) (by omega) (by omega)
        simp only [lt_len hk, if_true, List.getElem_range, nat_in hk2, nat_in hi, M.req_True, Int.toNat_natCast, M.bind_pure, add_def, hwk]
        exact fin_step (mk := fun _ : Unit => ((i : Int), (k : Int) + 1, w, ()))
      · intro b
        simp
    · intro b
      simp
theorem sCheck (x) : M.le (S_ref07_Check fcIsWorkshop.sh x) (fcCheck.sh x) := M.le_det fun h => eCheck x h
def spareAt (w : Wsh) (i : Int) : Spr := w.1.getD i.toNat (0, 0, 0, 0)
def slotAt (w : Wsh) (m k : Int) : Slt := (slotsOfV w m).getD k.toNat (0, [], 0, 0)
theorem spareAt_mem {w : Wsh} {i : Int} (h : isSpareV w i = true) : spareAt w i ∈ w.1 := by
  rw [isSpareV_iff] at h
  exact getD_mem h.1 h.2
theorem slotsOf_mem {w : Wsh} {m k : Int} (h : isSlotOfV w m k = true) : slotsOfV w m ∈ w.2.1 := by
  rw [isSlotOfV_iff] at h
  exact getD_mem h.1.1 h.1.2
theorem slotAt_mem {w : Wsh} {m k : Int} (h : isSlotOfV w m k = true) : slotAt w m k ∈ slotsOfV w m := by
  rw [isSlotOfV_iff] at h
  exact getD_mem h.2.1 h.2.2
theorem wV_split {w : Wsh} (h : wV w = true) : headV w = true ∧ (∀ s ∈ w.1, spareV s = true) ∧ (∀ m ∈ w.2.1, makeV m = true) ∧ ∀ t ∈ w.2.2.2, trialV w t = true := by
  simp only [wV, Bool.and_eq_true, List.all_eq_true] at h
  exact ⟨h.1.1.1, h.1.1.2, h.1.2, h.2⟩
theorem wV_head {w : Wsh} (h : wV w = true) : w.1.length ≤ 10 ∧ w.2.1.length ≤ 6 ∧ (0 ≤ w.2.2.1 ∧ w.2.2.1 ≤ 99) ∧ w.2.2.2.length ≤ 30 := by
  have := (wV_split h).1
  simp [headV] at this
  omega
theorem wV_slots {w : Wsh} (h : wV w = true) {m k : Int} (hm : isSlotOfV w m k = true) : (slotsOfV w m).length ≤ 4 := by
  have := (wV_split h).2.2.1 _ (slotsOf_mem hm)
  simp [makeV] at this
  omega
theorem wV_slot {w : Wsh} (h : wV w = true) {m k : Int} (hm : isSlotOfV w m k = true) : slotV (slotAt w m k) = true := by
  have := (wV_split h).2.2.1 _ (slotsOf_mem hm)
  simp only [makeV, Bool.and_eq_true, List.all_eq_true] at this
  exact this.2 _ (slotAt_mem hm)
theorem slotV_len {s : Slt} (h : slotV s = true) : 0 ≤ s.2.2.1 ∧ s.2.2.1 ≤ s.2.2.2 ∧ s.2.2.2 ≤ 999 := by
  simp only [slotV, isLengthV, Bool.and_eq_true, decide_eq_true_eq] at h
  omega
theorem wV_spare {w : Wsh} (h : wV w = true) {i : Int} (hi : isSpareV w i = true) : 0 ≤ (spareAt w i).2.2.1 ∧ (spareAt w i).2.2.1 ≤ (spareAt w i).2.2.2 ∧ (spareAt w i).2.2.2 ≤ 999 := by
  have := (wV_split h).2.1 _ (spareAt_mem hi)
  simp only [spareV, isLengthV, Bool.and_eq_true, decide_eq_true_eq] at this
  omega
theorem wV_trial {w : Wsh} (h : wV w = true) {t : Trl} (ht : t ∈ w.2.2.2) : isSpareV w t.1 = true ∧ isSlotOfV w t.2.1 t.2.2.1 = true := by
  have := (wV_split h).2.2.2 _ ht
  simp only [trialV, Bool.and_eq_true] at this
  exact this.1
def fitsAt (w : Wsh) (i n m k : Int) : Bool :=
  decide ((spareAt w i).1 = (slotAt w m k).1) && (slotAt w m k).2.1.contains (spareAt w i).2.1 && (decide ((slotAt w m k).2.2.1 ≤ n) && decide (n ≤ (slotAt w m k).2.2.2 + w.2.2.1))
def goodW (w : Wsh) : Prop := smallW w ∧ wV w = true
abbrev fcFitsAt : FC := ⟨.prod tW (.prod tI (.prod tI (.prod tI tI))), tB, fun x => goodW x.1 ∧ isSpareV x.1 x.2.1 = true ∧ isSlotOfV x.1 x.2.2.2.1 x.2.2.2.2 = true, fun x => fitsAt x.1 x.2.1 x.2.2.1 x.2.2.2.1 x.2.2.2.2⟩
theorem eFitsAt (w : Wsh) (i n m k : Int) (hw : goodW w) (hi : isSpareV w i = true) (hm : isSlotOfV w m k = true) : S_ref07_FitsAt fcIn.sh fcWithin.sh (w, i, n, m, k) = M.pure (fitsAt w i n m k) := by
  unfold S_ref07_FitsAt
  have r1 := isSpareV_iff.1 hi
  have r2 := isSlotOfV_iff.1 hm
  have hsl := slotV_len (wV_slot hw.2 hm)
  have hcut := (wV_head hw.2).2.2.1
  have hsm : (slotAt w m k).2.1.length < 2 ^ 63 := (hw.1.2.2.2 _ (slotsOf_mem hm)).2 _ (slotAt_mem hm)
  have hwr := wrap64 (n := (slotAt w m k).2.2.2 + w.2.2.1) (by omega) (by omega)
  unfold fitsAt
  simp only [slotAt, slotsOfV, spareAt] at *
  simp only [FC.sh, fcIn, fcWithin, M.gdo_det, M.bind_det, ofNat_def, r1, r2, and_self, M.req_True, implies_true, add_def, hwr, and_gdo, M.req_true (fun _ => hsm), hsm]
  rfl
theorem sFitsAt (x) : M.le (S_ref07_FitsAt fcIn.sh fcWithin.sh x) (fcFitsAt.sh x) := M.le_det fun h => eFitsAt x.1 x.2.1 x.2.2.1 x.2.2.2.1 x.2.2.2.2 h.1 h.2.1 h.2.2
def bears (w : Wsh) (i n : Int) (t : Trl) : Bool := !(decide (t.1 = i) && !decide (fitsAt w i n t.2.1 t.2.2.1 = decide (t.2.2.2 = 1)))
def canBe (w : Wsh) (i n : Int) : Bool := w.2.2.2.all (bears w i n) && (decide ((spareAt w i).2.2.1 ≤ n) && decide (n ≤ (spareAt w i).2.2.2))
abbrev fcCanBe : FC := ⟨.prod tW (.prod tI tI), tB, fun x => goodW x.1 ∧ isSpareV x.1 x.2.1 = true, fun x => canBe x.1 x.2.1 x.2.2⟩
theorem eCanBe (w : Wsh) (i n : Int) (hw : goodW w) (hi : isSpareV w i = true) : S_ref07_CanBe fcFitsAt.sh fcWithin.sh (w, i, n) = M.pure (canBe w i n) := by
  unfold S_ref07_CanBe
  have r1 := isSpareV_iff.1 hi
  have hl := (wV_head hw.2).2.2.2
  rw [M.loop_listT w.2.2.2 (fun j (_ : Unit) => (i, n, (j : Int), w, ())) (fun t b => if (decide (t.1 = i) && !decide (fitsAt w i n t.2.1 t.2.2.1 = decide (t.2.2.2 = 1))) = true then .done (.done false) else .next b) (fun _ => .next (i, n, w, ())) () ?_ ?_ ?_]
  · rw [foldS_anyN (q := bears w i n) _ _ (fun t => by simp only [bears, Bool.not_not])]
    unfold canBe
    cases w.2.2.2.all (bears w i n) with
    | false => simp
    | true => simp only [if_true, M.bind_pure, M.go_next, FC.sh, fcWithin, M.safe_det, M.val_det, ofNat_def, r1, and_self, M.req_True, Bool.true_and, spareAt]; rfl
  · rfl
  · intro j hj b
    have hwr := wrap64 (n := (j : Int) + 1) (by omega) (by omega)
    have ht := wV_trial hw.2 (List.getElem_mem hj)
    have hp : decide (w.2.2.2[j].1 = i) = true → (goodW w ∧ isSpareV w i = true ∧ isSlotOfV w w.2.2.2[j].2.1 w.2.2.2[j].2.2.1 = true) := fun _ => ⟨hw, hi, ht.2⟩
    simp only [ofNat_def, lt_len hj, if_true, getD_nat hj, in_len hj, M.req_True, FC.sh, fcFitsAt, M.safe_det, M.val_det, M.bind_pure, add_def, hwr, and_true, true_and, and_self, implies_true, imp_self]
    rw [M.req_true (fun h => ⟨h, hp h⟩)]
    exact fin_step (mk := fun _ : Unit => (i, n, (j : Int) + 1, w, ()))
  · intro b
    simp
theorem sCanBe (x) : M.le (S_ref07_CanBe fcFitsAt.sh fcWithin.sh x) (fcCanBe.sh x) := M.le_det fun h => eCanBe x.1 x.2.1 x.2.2 h.1 h.2
def lens (w : Wsh) (i : Int) : List Int := (intR (spareAt w i).2.2.1 (spareAt w i).2.2.2).filter (canBe w i)
theorem lens_len {w : Wsh} {i : Int} (hw : goodW w) (hi : isSpareV w i = true) : (lens w i).length ≤ 1000 := by
  have := wV_spare hw.2 hi
  have h2 := List.length_filter_le (canBe w i) (intR (spareAt w i).2.2.1 (spareAt w i).2.2.2)
  rw [intR_length] at h2
  unfold lens
  omega
abbrev fcAll : FC := ⟨.prod tW tI, tInts, fun x => goodW x.1 ∧ isSpareV x.1 x.2 = true, fun x => lens x.1 x.2⟩
theorem eAll (w : Wsh) (i : Int) (hw : goodW w) (hi : isSpareV w i = true) : S_ref07_all fcCanBe.sh (w, i) = M.pure (lens w i) := by
  unfold S_ref07_all
  have r1 := isSpareV_iff.1 hi
  have hl := wV_spare hw.2 hi
  simp only [ofNat_def, r1, and_self, M.req_True]
  rw [M.loop_list (intR (spareAt w i).2.2.1 (spareAt w i).2.2.2) (fun k (l : List Int) => (i, (spareAt w i).2.2.1 + (k : Int), w, l, ())) (fun n l => .next (if canBe w i n = true then l ++ [n] else l)) (fun l => .next (l, ())) (fun k l => l.length ≤ k) [] ?_ ?_ ?_ ?_]
  · rw [foldS_next, foldl_filter_app]
    simp only [M.bind_pure, M.go_next, List.nil_append]
    rfl
  · simp [spareAt]
  · simp
  · intro k hk l hkl
    have hk2 : k < 1000 := by rw [intR_length] at hk; omega
    have hlo : (spareAt w i).2.2.1 + (k : Int) ≤ (spareAt w i).2.2.2 := by rw [intR_length] at hk; omega
    have hwr := wrap64 (n := (spareAt w i).2.2.1 + (k : Int) + 1) (by omega) (by omega)
    have hwr2 := wrap64 (n := (spareAt w i).2.2.1 + ((k : Int) + 1)) (by omega) (by omega)
    refine ⟨?_, fun b' hb => ?_⟩
    · have hg : List.getD w.1 i.toNat (0, 0, 0, 0) = spareAt w i := rfl
      have hll : lenLe (l.length + (0 + 1)) := by unfold lenLe; omega
      have e1 : (((k + 1 : Nat) : Int)) = (k : Int) + 1 := by omega
      simp only [r1, and_self, M.req_True, hg, hlo, decide_true, if_true, FC.sh, fcCanBe, M.bind_det, hw, hi, intR_get, add_def, add_defN, append_def, M.req_true hll]
      cases canBe w i ((spareAt w i).2.2.1 + (k : Int)) <;> simp [hwr2, Int.add_assoc]
    · cases hb
      split <;> (try simp only [List.length_append, List.length_singleton]) <;> omega
  · intro l hkl
    have hg : List.getD w.1 i.toNat (0, 0, 0, 0) = spareAt w i := rfl
    have : ¬ (spareAt w i).2.2.1 + ((intR (spareAt w i).2.2.1 (spareAt w i).2.2.2).length : Int) ≤ (spareAt w i).2.2.2 := by rw [intR_length]; omega
    simp only [r1, and_self, M.req_True, hg, this, decide_false, Bool.false_eq_true, if_false, M.bind_pure]
theorem sAll (x) : M.le (S_ref07_all fcCanBe.sh x) (fcAll.sh x) := M.le_det fun h => eAll x.1 x.2 h.1 h.2
theorem isSpareV_nat {w : Wsh} {i : Nat} (h : i < w.1.length) : isSpareV w (i : Int) = true := by rw [isSpareV_iff]; omega
def hasTruth (w : Wsh) : Bool := (List.range w.1.length).all fun i => !decide (((lens w (i : Int)).length : Int) = 0)
def knownV (w : Wsh) (is : Bool) : Int := if checkV w ≠ 0 then checkV w else if is = false then 1 else if hasTruth w = true then 0 else 3
theorem wV_of_check {w : Wsh} (h : checkV w = 0) : wV w = true := by
  unfold checkV at h
  split at h
  · assumption
  · cases h
abbrev fcKnown0 : FC := ⟨.prod tW tB, tI, fun x => smallW x.1, fun x => knownV x.1 x.2⟩
theorem eKnown0 (w : Wsh) (is : Bool) (h : smallW w) : S_ref07_known fcCheck.sh fcAll.sh (w, is) = M.pure (knownV w is) := by
  unfold S_ref07_known knownV
  simp only [FC.sh, fcCheck, M.bind_det, M.req_true h]
  by_cases hc : checkV w = 0
  · have hw : goodW w := ⟨h, wV_of_check hc⟩
    have hhd := wV_head hw.2
    simp only [hc, ne_eq, not_true, decide_false, Bool.false_eq_true, if_false]
    cases is with
    | false => simp
    | true =>
      simp only [Bool.not_true, Bool.false_eq_true, if_false, Bool.true_eq_false]
      rw [M.loop_listT (List.range w.1.length) (fun i (_ : Unit) => ((i : Int), w, ())) (fun i b => if decide (((lens w (i : Int)).length : Int) = 0) = true then .done (.done (3 : Int)) else .next b) (fun _ => .next ()) () ?_ ?_ ?_]
      · rw [foldS_anyN (q := fun (i : Nat) => !decide (((lens w (i : Int)).length : Int) = 0)) _ _ (fun i => by simp)]
        have e : ((List.range w.1.length).all fun (i : Nat) => !decide (((lens w (i : Int)).length : Int) = 0)) = hasTruth w := rfl
        rw [e]
        cases hasTruth w <;> simp
      · rfl
      · intro i hi b
        have hi : i < w.1.length := by simpa using hi
        have hwr := wrap64 (n := (i : Int) + 1) (by omega) (by omega)
        simp only [ofNat_def, lt_len hi, if_true, List.getElem_range, fcAll, hw, isSpareV_nat hi, and_self, M.bind_det, M.req_True, M.bind_pure, add_def, hwr]
        exact fin_step (mk := fun _ : Unit => ((i : Int) + 1, w, ()))
      · intro b
        simp
  · simp [hc]
theorem sKnown0 (x) : M.le (S_ref07_known fcCheck.sh fcAll.sh x) (fcKnown0.sh x) := M.le_det fun h => eKnown0 x.1 x.2 h
abbrev fcKnown : FC := ⟨tW, tI, smallW, fun w => knownV w true⟩
theorem sKnown (x) : M.le (S_ref07_Known fcKnown0.sh x) (fcKnown.sh x) := M.le_det fun h => by
  unfold S_ref07_Known
  simp only [FC.sh, fcKnown0, M.bind_det, M.req_true (show smallW x from h), fcKnown]
theorem knownV_0 {w : Wsh} {is : Bool} (h : knownV w is = 0) : checkV w = 0 ∧ is = true ∧ hasTruth w = true := by
  unfold knownV at h
  by_cases hc : checkV w = 0
  · cases is <;> simp [hc] at h ⊢
    exact h
  · simp [hc] at h
theorem good_of_known {w : Wsh} {is : Bool} (hs : smallW w) (h : knownV w is = 0) : goodW w := ⟨hs, wV_of_check (knownV_0 h).1⟩
theorem lens_pos {w : Wsh} (h : hasTruth w = true) {i : Int} (hi : isSpareV w i = true) : 0 < (lens w i).length := by
  rw [isSpareV_iff] at hi
  have := List.all_eq_true.1 h i.toNat (by simp; omega)
  simp only [Bool.not_eq_true', decide_eq_false_iff_not] at this
  rw [Int.toNat_of_nonneg hi.1] at this
  omega
def lengthV (w : Wsh) (i : Int) : (Int × Int) × Int := if knownV w (isSpareV w i) ≠ 0 then ((0, 0), knownV w (isSpareV w i)) else (((lens w i).getD 0 0, (lens w i).getD ((lens w i).length - 1) 0), 0)
abbrev fcLength : FC := ⟨.prod tW tI, .prod tSpan tI, fun x => smallW x.1, fun x => lengthV x.1 x.2⟩
theorem eLength (w : Wsh) (i : Int) (h : smallW w) : S_ref07_Length fcIsSpare.sh fcKnown0.sh fcAll.sh (w, i) = M.pure (lengthV w i) := by
  unfold S_ref07_Length lengthV
  simp only [FC.sh, fcIsSpare, fcKnown0, M.safe_det, M.val_det, h, M.req_True]
  by_cases hk : knownV w (isSpareV w i) = 0
  · have hw := good_of_known h hk
    have hi := (knownV_0 hk).2.1
    have hp := lens_pos (knownV_0 hk).2.2 hi
    have hll := lens_len hw hi
    have hwr := wrap64 (n := ((lens w i).length : Int) - 1) (by omega) (by omega)
    have e1 : (((lens w i).length : Int) - 1).toNat = (lens w i).length - 1 := by omega
    have r1 : (0 : Int) ≤ 0 ∧ (0 : Int) < ((lens w i).length : Int) := by omega
    have r2 : (0 : Int) ≤ ((lens w i).length : Int) - 1 ∧ ((lens w i).length : Int) - 1 < ((lens w i).length : Int) := by omega
    simp only [hk, ne_eq, not_true, decide_false, Bool.false_eq_true, if_false]
    simp only [fcAll, M.bind_det, hw, hi, and_self, M.req_True, ofNat_def, hwr, e1, M.req_true r2]
    rw [M.req_true (by exact r1)]
    rfl
  · simp [hk]
theorem sLength (x) : M.le (S_ref07_Length fcIsSpare.sh fcKnown0.sh fcAll.sh x) (fcLength.sh x) := M.le_det fun h => eLength x.1 x.2 h
def isV (some many : Int) : Int := if some = many then 1 else if some = 0 then 2 else 3
abbrev fcIs : FC := ⟨.prod tI tI, tI, fun _ => True, fun x => isV x.1 x.2⟩
theorem sIs (x) : M.le (S_ref07_is x) (fcIs.sh x) := M.le_det fun _ => by
  unfold S_ref07_is
  simp only [fcIs, isV, decide_eq_true_eq]
  split
  · rfl
  · split <;> rfl
theorem foldl_count {α : Type} {p : α → Bool} : ∀ (l : List α) (n : Int), l.foldl (fun n x => if p x = true then n + 1 else n) n = n + (l.countP p : Int)
  | [], n => by simp
  | x :: l, n => by
    simp only [List.foldl_cons, List.countP_cons]
    rw [foldl_count l]
    split <;> simp <;> omega
def fitsV (w : Wsh) (i m k : Int) : Int := isV ((lens w i).countP fun n => fitsAt w i n m k : Int) ((lens w i).length : Int)
abbrev fcFits0 : FC := ⟨.prod tW (.prod tI (.prod tI tI)), tI, fun x => goodW x.1 ∧ isSpareV x.1 x.2.1 = true ∧ isSlotOfV x.1 x.2.2.1 x.2.2.2 = true, fun x => fitsV x.1 x.2.1 x.2.2.1 x.2.2.2⟩
theorem eFits0 (w : Wsh) (i m k : Int) (hw : goodW w) (hi : isSpareV w i = true) (hm : isSlotOfV w m k = true) : S_ref07_fits fcFitsAt.sh fcAll.sh fcIs.sh (w, i, m, k) = M.pure (fitsV w i m k) := by
  unfold S_ref07_fits
  have hll := lens_len hw hi
  simp only [FC.sh, fcAll, M.bind_det, hw, hi, and_self, M.req_True]
  rw [M.loop_list (lens w i) (fun j (n : Int) => (i, m, k, lens w i, n, (j : Int), w, ())) (fun x n => .next (if fitsAt w i x m k = true then n + 1 else n)) (fun n => .next (lens w i, n, ())) (fun j n => 0 ≤ n ∧ n ≤ (j : Int)) 0 ?_ ?_ ?_ ?_]
  · rw [foldS_next, foldl_count]
    simp only [M.bind_pure, M.go_next, fcIs, M.bind_det, M.req_True, Int.zero_add]
    rfl
  · rfl
  · simp
  · intro j hj n hn
    have hwj := wrap64 (n := (j : Int) + 1) (by omega) (by omega)
    have hwn := wrap64 (n := n + 1) (by omega) (by omega)
    refine ⟨?_, fun b' hb => ?_⟩
    · simp only [ofNat_def, lt_len hj, if_true, getD_nat hj, in_len hj, M.req_True, fcFitsAt, M.safe_det, M.val_det, hw, hi, hm, and_self, add_def, hwn]
      cases fitsAt w i (lens w i)[j] m k <;> simp [hwj]
    · cases hb
      split <;> omega
  · intro n hn
    simp
theorem sFits0 (x) : M.le (S_ref07_fits fcFitsAt.sh fcAll.sh fcIs.sh x) (fcFits0.sh x) := M.le_det fun h => eFits0 x.1 x.2.1 x.2.2.1 x.2.2.2 h.1 h.2.1 h.2.2
def fitsR (w : Wsh) (i m k : Int) : Int × Int := if knownV w (isSpareV w i && isSlotOfV w m k) ≠ 0 then (0, knownV w (isSpareV w i && isSlotOfV w m k)) else (fitsV w i m k, 0)
abbrev fcFits : FC := ⟨.prod tW (.prod tI (.prod tI tI)), .prod tI tI, fun x => smallW x.1, fun x => fitsR x.1 x.2.1 x.2.2.1 x.2.2.2⟩
theorem eFits (w : Wsh) (i m k : Int) (h : smallW w) : S_ref07_Fits fcIsSpare.sh fcIsSlotOf.sh fcKnown0.sh fcFits0.sh (w, i, m, k) = M.pure (fitsR w i m k) := by
  unfold S_ref07_Fits fitsR
  simp only [FC.sh, fcIsSpare, fcIsSlotOf, fcKnown0, M.safe_det, M.val_det, h, M.req_True, and_true, and_self, imp_self, true_and]
  by_cases hk : knownV w (isSpareV w i && isSlotOfV w m k) = 0
  · have hw := good_of_known h hk
    have hi := (knownV_0 hk).2.1
    simp only [Bool.and_eq_true] at hi
    simp only [hk, ne_eq, not_true, decide_false, Bool.false_eq_true, if_false]
    simp only [fcFits0, M.bind_det, hw, hi, and_self, M.req_True]
  · simp [hk]
theorem sFits (x) : M.le (S_ref07_Fits fcIsSpare.sh fcIsSlotOf.sh fcKnown0.sh fcFits0.sh x) (fcFits.sh x) := M.le_det fun h => eFits x.1 x.2.1 x.2.2.1 x.2.2.2 h
end Go.Fer
namespace Go.Fer
open M (Step)
set_option linter.unusedVariables false
set_option linter.unusedSimpArgs false
section
variable {α : Type}
noncomputable def G_IndexFunc (d : α) (x : List α × (α → M Bool)) : M Int :=
  M.bind (M.loop (fun (σ : List α × (α → M Bool) × Int × Int × Unit) => if decide (σ.2.2.2.1 < σ.2.2.1) = true then M.req (0 ≤ σ.2.2.2.1 ∧
  σ.2.2.2.1 < Int.ofNat (List.length σ.1)) (M.bind (σ.2.1 (List.getD σ.1 (Int.toNat σ.2.2.2.1) d)) fun y => if y = true then M.bind (M.bind (M.pure
  σ.2.2.2.1) fun r => M.pure (Step.done r)) fun r => M.pure (Step.done r) else M.pure (Step.next (σ.1, σ.2.1, σ.2.2.1, IntKind.wrap .i64 (Add.add
  σ.2.2.2.1 1), ()))) else M.bind (M.pure (Step.next ())) fun r => M.pure (Step.done r)) (x.1, x.2, Int.ofNat (List.length x.1), 0, ())) (Step.go fun (σ
  : Unit) => M.pure (-1))
noncomputable def G_ContainsFunc (c : List α × (α → M Bool) → M Int) (x : List α × (α → M Bool)) : M Bool := M.bind (c x) fun y => M.pure (decide (y ≥ 0))
noncomputable def G_all (c : List α × (α → M Bool) → M Bool) (c1 : α × Option (α → M Bool) → M Bool) (x : List α × (α → M Bool)) : M Bool :=
  M.bind (c (x.1, fun x_1 => c1 (x_1, some x.2))) fun y => M.pure !y
noncomputable def G_allc1 (x : α × Option (α → M Bool)) : M Bool := M.bind (Option.getD x.2 (fun x => { safe := False, out := fun x => False }) x.1) fun y => M.pure !y
def idxV (p : α → Bool) : List α → Int → Int
  | [], _ => -1
  | x :: l, i => if p x = true then i else idxV p l (i + 1)
theorem idxV_ge (p : α → Bool) : ∀ (l : List α) (i : Int), 0 ≤ i → (decide (idxV p l i ≥ 0)) = l.any p
  | [], i, _ => by simp [idxV]
  | x :: l, i, h => by
    simp only [idxV, List.any_cons]
    by_cases hx : p x = true
    · simp [hx]; omega
    · have := idxV_ge p l (i + 1) (by omega)
      simpa [hx] using this
theorem foldS_idx (p : α → Bool) : ∀ (l : List α) (i : Int), foldS (fun x (i : Int) => if p x = true then (.done (.done i) : Step Int (Step Unit Int)) else .next (i + 1)) (fun _ => .next ()) l i = if l.any p = true then .done (idxV p l i) else .next ()
  | [], i => by simp [foldS]
  | x :: l, i => by
    simp only [foldS, List.any_cons, idxV]
    by_cases hx : p x = true
    · simp [hx]
    · have := foldS_idx p l (i + 1)
      simpa [hx] using this
theorem idxV_none {p : α → Bool} : ∀ (l : List α) (i : Int), ¬ l.any p = true → idxV p l i = -1
  | [], _, _ => rfl
  | x :: l, i, hn => by
    simp only [List.any_cons, Bool.or_eq_true, not_or] at hn
    simp only [idxV, hn.1, Bool.false_eq_true, if_false]
    exact idxV_none l _ hn.2
theorem gIndexFunc (d : α) (l : List α) (f : α → M Bool) (h : l.length < 2 ^ 63) (hf : ∀ y ∈ l, ∃ b, f y = M.pure b) : G_IndexFunc d (l, f) = M.pure (idxV (fun y => (f y).val false) l 0) := by
  unfold G_IndexFunc
  rw [M.loop_list l (fun i (b : Int) => (l, f, (l.length : Int), b, ())) (fun y (i : Int) => if (f y).val false = true then (.done (.done i) : Step Int (Step Unit Int)) else .next (i + 1)) (fun _ => .next ()) (fun i b => b = (i : Int)) 0 ?_ ?_ ?_ ?_]
  · rw [foldS_idx (fun y => (f y).val false)]
    by_cases ha : (l.any fun y => (f y).val false) = true
    · simp [ha]
    · have : idxV (fun y => (f y).val false) l 0 = -1 := by
        have : ∀ (l : List α) (i : Int), ¬ (l.any fun y => (f y).val false) = true → idxV (fun y => (f y).val false) l i = -1 := by
          intro l
          induction l with
          | nil => intro i _; rfl
          | cons x l ih =>
            intro i hn
            simp only [List.any_cons, Bool.or_eq_true, not_or] at hn
            simp only [idxV, hn.1, Bool.false_eq_true, if_false]
            exact ih _ hn.2
        exact this l 0 ha
      simp [ha, this]
  · rfl
  · rfl
  · intro i hi b hb
    subst hb
    have hw := wrap64 (n := (i : Int) + 1) (by omega) (by omega)
    refine ⟨?_, fun b' hb' => ?_⟩
    · obtain ⟨b, hb⟩ := hf _ (List.getElem_mem hi)
      simp only [ofNat_def, lt_len hi, if_true, getD_nat hi, in_len hi, M.req_True, hb, M.val_pure, M.bind_pure, add_def, hw]
      split <;> rfl
    · split at hb'
      · cases hb'
      · cases hb'; omega
  · intro b hb
    subst hb
    simp
end
noncomputable abbrev fcIndexFunc (e : Ty) : FC := ⟨.prod (.slice e) (.fn e .bool), tI, fun x => x.1.length < 2 ^ 63 ∧ ∀ y ∈ x.1, ∃ b, x.2 y = M.pure b, fun x => idxV (fun y => (x.2 y).val false) x.1 0⟩
theorem sIndexFunc (e : Ty) (x) : M.le (G_IndexFunc e.dflt x) ((fcIndexFunc e).sh x) := M.le_det fun h => gIndexFunc e.dflt x.1 x.2 h.1 h.2
noncomputable abbrev fcContainsFunc (e : Ty) : FC := ⟨.prod (.slice e) (.fn e .bool), tB, fun x => x.1.length < 2 ^ 63 ∧ ∀ y ∈ x.1, ∃ b, x.2 y = M.pure b, fun x => x.1.any fun y => (x.2 y).val false⟩
theorem sContainsFunc (e : Ty) (x) : M.le (G_ContainsFunc (fcIndexFunc e).sh x) ((fcContainsFunc e).sh x) := M.le_det fun h => by
  unfold G_ContainsFunc
  simp only [FC.sh, fcIndexFunc, M.bind_det]
  rw [M.req_true (by exact h)]
  exact congrArg M.pure (idxV_ge (fun y => (x.2 y).val false) x.1 0 (by omega))
noncomputable abbrev fcAllC1 (e : Ty) : FC := ⟨.prod e (.ptr (.fn e .bool)), tB, fun x => ∃ f, x.2 = some f ∧ ∃ b, f x.1 = M.pure b, fun x => !((x.2.getD fun _ => M.fail) x.1).val false⟩
theorem sAllC1 (e : Ty) (x) : M.le (G_allc1 x) ((fcAllC1 e).sh x) := M.le_det fun h => by
  obtain ⟨y, o⟩ := x
  obtain ⟨f, hf, b, hb⟩ := h
  change o = some f at hf
  subst hf
  change f y = M.pure b at hb
  unfold G_allc1
  simp only [Option.getD_some, hb, M.bind_pure, fcAllC1, M.val_pure]
noncomputable abbrev fcAllF (e : Ty) : FC := ⟨.prod (.slice e) (.fn e .bool), tB, fun x => x.1.length < 2 ^ 63 ∧ ∀ y ∈ x.1, ∃ b, x.2 y = M.pure b, fun x => x.1.all fun y => (x.2 y).val false⟩
theorem sAllF (e : Ty) (x) : M.le (G_all (fcContainsFunc e).sh (fcAllC1 e).sh x) ((fcAllF e).sh x) := M.le_det fun h => by
  obtain ⟨l, f⟩ := x
  obtain ⟨h1, h2⟩ := h
  unfold G_all
  have hc : ∀ y ∈ l, (fcAllC1 e).sh (y, some f) = M.pure (!(f y).val false) := fun y hy => by
    obtain ⟨b, hb⟩ := h2 y hy
    exact M.det_true ⟨f, rfl, b, hb⟩ _
  simp only [FC.sh, fcContainsFunc, M.bind_det]
  rw [M.req_true ⟨h1, fun y hy => ⟨_, hc y hy⟩⟩]
  refine congrArg M.pure ?_
  rw [List.not_any_eq_all_not]
  have : ∀ m : List e.Den, (m.all fun y => !((fcAllC1 e).sh (y, some f)).val false) = m.all fun y => (f y).val false := by
    intro m
    induction m with
    | nil => rfl
    | cons y m ih =>
      rw [List.all_cons, List.all_cons, ih]
      congr 1
      exact (congrArg (fun z : Bool => !z) (M.val_det (p := (fcAllC1 e).pre (y, some f)))).trans (Bool.not_not _)
  exact this l
end Go.Fer
namespace Go.Fer
open M (Step)
set_option linter.unusedVariables false
set_option linter.unusedSimpArgs false
theorem all_congr' {α : Type} {p q : α → Bool} : ∀ {l : List α}, (∀ x ∈ l, p x = q x) → l.all p = l.all q
  | [], _ => rfl
  | x :: l, h => by
    simp only [List.all_cons, h x (by simp), all_congr' fun y hy => h y (List.mem_cons_of_mem _ hy)]
theorem sPWithin (x) : M.le (S_parts_within x) (fcWithin.sh x) := M.le_det fun _ => rfl
theorem sPIsLength (x) : M.le (S_parts_isLength fcWithin.sh x) (fcIsLength.sh x) := M.le_det fun _ => eIsLength x
abbrev fcIsMark : FC := ⟨tI, tB, fun _ => True, markV⟩
theorem sPIsMark (x) : M.le (S_parts_isMark fcWithin.sh x) (fcIsMark.sh x) := M.le_det fun _ => by
  unfold S_parts_isMark
  simp only [FC.sh, fcWithin, M.bind_det, M.req_True, fcIsMark, markV]
theorem sPIsSpare (x) : M.le (S_parts_isSpare fcWithin.sh x) (fcIsSpare.sh x) := M.le_det fun h => eIsSpare x.1 x.2 h
theorem sPIsSlot (x) : M.le (S_parts_isSlot fcWithin.sh x) (fcIsSlotOf.sh x) := M.le_det fun h => by
  obtain ⟨w, m, k⟩ := x
  change smallW w at h
  have := eIsSlotOf w m k h
  unfold S_ref07_IsSlotOf at this
  unfold S_parts_isSlot
  simp only [FC.sh, fcIsMake, M.bind_det, M.req_true h, fcWithin, M.req_True, ofNat_def] at this ⊢
  have hl := h.2.1
  have hw := wrap64 (n := (w.2.1.length : Int) - 1) (by omega) (by omega)
  simp only [hw, le_pred]
  exact this
theorem sPAscending (x) : M.le (S_parts_ascending x) (fcAscending.sh x) := M.le_det fun h => eAscending x h
theorem eIndex (l : List Int) (n : Int) (h : l.length < 2 ^ 63) : S_slices_Index_int_int (l, n) = M.pure (idxV (fun y => decide (n = y)) l 0) := by
  unfold S_slices_Index_int_int
  rw [M.loop_list l (fun i (b : Int) => (l, n, (l.length : Int), b, ())) (fun y (i : Int) => if decide (n = y) = true then (.done (.done i) : Step Int (Step Unit Int)) else .next (i + 1)) (fun _ => .next ()) (fun i b => b = (i : Int)) 0 ?_ ?_ ?_ ?_]
  · rw [foldS_idx (fun y => decide (n = y))]
    by_cases ha : (l.any fun y => decide (n = y)) = true
    · rw [if_pos ha]; simp
    · rw [if_neg ha, idxV_none l 0 ha]; simp
  · rfl
  · rfl
  · intro i hi b hb
    subst hb
    have hw := wrap64 (n := (i : Int) + 1) (by omega) (by omega)
    refine ⟨?_, fun b' hb' => ?_⟩
    · simp only [ofNat_def, lt_len hi, if_true, getD_nat hi, in_len hi, M.req_True, M.bind_pure, add_def, hw]
      split <;> rfl
    · split at hb'
      · cases hb'
      · cases hb'; omega
  · intro b hb
    subst hb
    simp
abbrev fcIndex : FC := ⟨.prod tInts tI, tI, fun x => x.1.length < 2 ^ 63, fun x => idxV (fun y => decide (x.2 = y)) x.1 0⟩
theorem sIndex (x) : M.le (S_slices_Index_int_int x) (fcIndex.sh x) := M.le_det fun h => eIndex x.1 x.2 h
theorem sContains (x) : M.le (S_slices_Contains_int_int fcIndex.sh x) (fcIn.sh x) := M.le_det fun h => by
  unfold S_slices_Contains_int_int
  simp only [FC.sh, fcIndex, M.bind_det]
  rw [M.req_true (by exact h), idxV_ge _ _ _ (by omega)]
  have e : (fun y => decide (x.2 = y)) = fun y => y == x.2 := by funext y; rw [Bool.eq_iff_iff]; simp only [decide_eq_true_eq, beq_iff_eq]; exact ⟨fun h => h.symm, fun h => h.symm⟩
  rw [e, any_contains]
theorem sPIsW1 (x) : M.le (S_parts_isWorkshop_c1 fcIsMark.sh fcIsLength.sh x) ((⟨tSpare, tB, fun _ => True, spareV⟩ : FC).sh x) := M.le_det fun _ => by
  unfold S_parts_isWorkshop_c1
  simp only [FC.sh, fcIsMark, fcIsLength, M.bind_det, M.gdo_det, M.req_True, implies_true, and_gdo, spareV]
abbrev fcSpareC : FC := ⟨tSpare, tB, fun _ => True, spareV⟩
theorem sPIsW2 (x) : M.le (S_parts_isWorkshop_c2 fcAscending.sh (fcAllF tI).sh fcIsMark.sh fcIsLength.sh x) (fcIsSlot.sh x) := M.le_det fun h => by
  unfold S_parts_isWorkshop_c2
  simp only [FC.sh, fcAscending, fcIsLength, fcAllF, fcIsMark, M.bind_det, M.gdo_det, M.req_True, implies_true, M.val_det]
  rw [M.req_true (by exact fun _ => ⟨h, fun y _ => ⟨_, M.det_true trivial _⟩⟩), M.req_true (by exact fun _ => h)]
  simp only [and_gdo, ofNat_def]
  refine congrArg M.pure ?_
  show _ = slotV x
  unfold slotV
  have e : (x.2.1.all fun y => markV y) = x.2.1.all markV := rfl
  rw [e]
  cases x.2.1.all markV <;> cases markV x.1 <;> cases decide ((x.2.1.length : Int) ≤ 4) <;> simp
noncomputable abbrev fcMakeC : FC := ⟨.prod tMake (.ptr (.fn tSlot .bool)), tB, fun x => ∃ f, x.2 = some f ∧ x.1.length < 2 ^ 63 ∧ ∀ y ∈ x.1, ∃ b, f y = M.pure b, fun x => decide ((x.1.length : Int) ≤ 4) && x.1.all fun y => ((x.2.getD fun _ => M.fail) y).val false⟩
theorem sPIsW3 (x) : M.le (S_parts_isWorkshop_c3 (fcAllF tSlot).sh x) (fcMakeC.sh x) := M.le_det fun h => by
  obtain ⟨m, o⟩ := x
  obtain ⟨f, hf, h1, h2⟩ := h
  change o = some f at hf
  subst hf
  unfold S_parts_isWorkshop_c3
  simp only [FC.sh, fcAllF, M.bind_det, M.gdo_det, Option.getD_some]
  rw [M.req_true (by exact fun _ => ⟨h1, h2⟩)]
  simp only [and_gdo, ofNat_def, fcMakeC, Option.getD_some]
abbrev fcTrialC : FC := ⟨.prod tTrial (.ptr tW), tB, fun x => ∃ w, x.2 = some w ∧ smallW w, fun x => trialV (x.2.getD ([], [], 0, [])) x.1⟩
theorem sPIsW4 (x) : M.le (S_parts_isWorkshop_c4 fcIsSpare.sh fcIsSlotOf.sh fcWithin.sh x) (fcTrialC.sh x) := M.le_det fun h => by
  obtain ⟨t, o⟩ := x
  obtain ⟨w, hf, h1⟩ := h
  change o = some w at hf
  subst hf
  unfold S_parts_isWorkshop_c4
  simp only [FC.sh, fcIsSpare, fcIsSlotOf, fcWithin, M.bind_det, M.gdo_det, Option.getD_some, M.req_true h1, h1, implies_true, M.req_True, and_gdo, fcTrialC, trialV]
theorem sPIsWorkshop (x) : M.le (S_parts_isWorkshop fcWithin.sh (fcAllF tSpare).sh (fcAllF tMake).sh (fcAllF tTrial).sh fcMakeC.sh fcTrialC.sh fcSpareC.sh fcIsSlot.sh x) (fcIsWorkshop.sh x) := M.le_det fun h => by
  have h0 : smallW x := h
  obtain ⟨h1, h2, h3, h4⟩ := (h : smallW x)
  unfold S_parts_isWorkshop
  have d1 : ∀ s, fcSpareC.sh s = M.pure (spareV s) := fun _ => rfl
  have d2 : ∀ m ∈ x.2.1, fcMakeC.sh (m, some fcIsSlot.sh) = M.pure (makeV m) := fun m hm => by
    refine (M.det_true ⟨_, rfl, (h4 m hm).1, fun y hy => ⟨_, M.det_true ((h4 m hm).2 y hy) _⟩⟩ _).trans (congrArg M.pure ?_)
    simp only [fcMakeC, Option.getD_some, makeV, FC.sh, M.val_det]
    have : decide ((m.length : Int) ≤ 4) = !decide ((m.length : Int) > 4) := by by_cases hh : (m.length : Int) ≤ 4 <;> simp [hh] <;> omega
    rw [this]
  have d3 : ∀ t, fcTrialC.sh (t, some x) = M.pure (trialV x t) := fun t => M.det_true ⟨_, rfl, h0⟩ _
  have a1 : (x.1.all fun y => (fcSpareC.sh y).val false) = x.1.all spareV := all_congr' fun s _ => M.val_det
  have a2 : (x.2.1.all fun y => (fcMakeC.sh (y, some fcIsSlot.sh)).val false) = x.2.1.all makeV := all_congr' fun m hm => (congrArg (fun z : M Bool => z.val false) (d2 m hm)).trans M.val_pure
  have a3 : (x.2.2.2.all fun y => (fcTrialC.sh (y, some x)).val false) = x.2.2.2.all (trialV x) := all_congr' fun t _ => M.val_det
  have e1 : ∀ y, (fcAllF tSpare).sh y = M.det ((fcAllF tSpare).pre y) ((fcAllF tSpare).g y) := fun _ => rfl
  have e2 : ∀ y, (fcAllF tMake).sh y = M.det ((fcAllF tMake).pre y) ((fcAllF tMake).g y) := fun _ => rfl
  have e3 : ∀ y, (fcAllF tTrial).sh y = M.det ((fcAllF tTrial).pre y) ((fcAllF tTrial).g y) := fun _ => rfl
  have e4 : ∀ y, fcWithin.sh y = M.pure (fcWithin.g y) := fun _ => rfl
  simp only [e1, e2, e3, e4, M.bind_det, M.gdo_det, M.gdo_pure, M.bind_pure]
  rw [M.req_true (by exact fun _ => ⟨h1, fun y _ => ⟨_, d1 y⟩⟩), M.req_true (by exact fun _ => ⟨h2, fun y hy => ⟨_, d2 y hy⟩⟩), M.req_true (by exact fun _ => ⟨h3, fun y _ => ⟨_, d3 y⟩⟩)]
  simp only [and_gdo, ofNat_def]
  refine congrArg M.pure ?_
  show _ = wV x
  rw [a1, a2, a3]
  unfold wV headV
  have c1 : decide ((x.1.length : Int) ≤ 10) = !decide ((x.1.length : Int) > 10) := by by_cases hh : (x.1.length : Int) ≤ 10 <;> simp [hh] <;> omega
  have c2 : decide ((x.2.1.length : Int) ≤ 6) = !decide ((x.2.1.length : Int) > 6) := by by_cases hh : (x.2.1.length : Int) ≤ 6 <;> simp [hh] <;> omega
  have c3 : decide ((x.2.2.2.length : Int) ≤ 30) = !decide ((x.2.2.2.length : Int) > 30) := by by_cases hh : (x.2.2.2.length : Int) ≤ 30 <;> simp [hh] <;> omega
  rw [c1, c2, c3]
  generalize decide ((x.1.length : Int) > 10) = A
  generalize decide ((x.2.1.length : Int) > 6) = B
  generalize decide ((x.2.2.2.length : Int) > 30) = C
  generalize x.1.all spareV = D
  generalize x.2.1.all makeV = E
  generalize x.2.2.2.all (trialV x) = F
  generalize (decide (0 ≤ x.2.2.1) && decide (x.2.2.1 ≤ 99)) = G
  revert A B C D E F G
  decide
end Go.Fer
namespace Go.Fer
open M (Step)
set_option linter.unusedVariables false
set_option linter.unusedSimpArgs false
def mlkT (m : List ((Int × Int × Int) × Int)) (k : Int × Int × Int) : Option Int := Option.map (fun x => x.2) (List.find? (fun p => decide (k.1 = p.1.1) && (decide (k.2.1 = p.1.2.1) && decide (k.2.2 = p.1.2.2))) m)
def mlkI (m : List (Int × Int)) (k : Int) : Option Int := Option.map (fun x => x.2) (List.find? (fun p => decide (k = p.1)) m)
theorem eq3 {a b : Int × Int × Int} : (decide (a.1 = b.1) && (decide (a.2.1 = b.2.1) && decide (a.2.2 = b.2.2))) = decide (a = b) := by
  rw [Bool.eq_iff_iff]
  simp only [Bool.and_eq_true, decide_eq_true_eq]
  constructor
  · rintro ⟨h1, h2, h3⟩; exact Prod.ext h1 (Prod.ext h2 h3)
  · rintro rfl; exact ⟨rfl, rfl, rfl⟩
theorem mlkT_nil (k) : mlkT [] k = none := rfl
theorem mlkT_mset (k : Int × Int × Int) (v : Int) (k' : Int × Int × Int) : ∀ m, mlkT (msetT m k v) k' = if k' = k then some v else mlkT m k'
  | [] => by
    show mlkT [(k, v)] k' = _
    by_cases h : k' = k <;> simp [mlkT, eq3, h]
  | p :: m => by
    have ih := mlkT_mset k v k' m
    show mlkT (if (decide (k.1 = p.1.1) && (decide (k.2.1 = p.1.2.1) && decide (k.2.2 = p.1.2.2))) = true then (p.1, v) :: m else p :: msetT m k v) k' = _
    rw [eq3]
    by_cases h : k = p.1
    · subst h
      by_cases h' : k' = p.1 <;> simp [mlkT, eq3, h']
    · simp only [h, decide_false, Bool.false_eq_true, if_false]
      simp only [mlkT, eq3, List.find?_cons] at ih ⊢
      by_cases h' : k' = p.1
      · have : ¬ p.1 = k := fun e => h e.symm
        simp [h', this]
      · simp only [h', decide_false]
        exact ih
theorem mlkI_mset (k v k' : Int) : ∀ m, mlkI (msetI m k v) k' = if k' = k then some v else mlkI m k'
  | [] => by
    show mlkI [(k, v)] k' = _
    by_cases h : k' = k <;> simp [mlkI, h]
  | p :: m => by
    have ih := mlkI_mset k v k' m
    show mlkI (if decide (k = p.1) = true then (p.1, v) :: m else p :: msetI m k v) k' = _
    by_cases h : k = p.1
    · subst h
      by_cases h' : k' = p.1 <;> simp [mlkI, h']
    · simp only [h, decide_false, Bool.false_eq_true, if_false]
      simp only [mlkI, List.find?_cons] at ih ⊢
      by_cases h' : k' = p.1
      · have : ¬ p.1 = k := fun e => h e.symm
        simp [h', this]
      · simp only [h', decide_false]
        exact ih
def keyOf' (t : Trl) : Int × Int × Int := (t.1, t.2.1, t.2.2.1)
theorem clash_iff {a b : Trl} : clash a b = true ↔ keyOf' a = keyOf' b ∧ a.2.2.2 ≠ b.2.2.2 := by
  simp only [clash, Bool.and_eq_true, decide_eq_true_eq, keyOf', Prod.mk.injEq]
  constructor
  · rintro ⟨⟨⟨a, b⟩, c⟩, d⟩; exact ⟨⟨a, b, c⟩, d⟩
  · rintro ⟨⟨a, b, c⟩, d⟩; exact ⟨⟨⟨a, b⟩, c⟩, d⟩
theorem tabOk_iff (l : List Trl) : tabOk l = true ↔ l.Pairwise fun a b => clash a b = false := by
  unfold tabOk
  rw [List.pairwise_iff_getElem]
  simp only [List.all_eq_true, List.mem_range, Bool.not_eq_true']
  constructor
  · intro h i j hi hj hij
    have := h j hj i hij
    simpa [List.getD_eq_getElem?_getD, hi, hj] using this
  · intro h j hj i hij
    have hi : i < l.length := by omega
    have := h i j hi hj hij
    simpa [List.getD_eq_getElem?_getD, hi, hj] using this
def Seen (m : List ((Int × Int × Int) × Int)) (pre : List Trl) : Prop := ∀ k v, mlkT m k = some v ↔ (∃ t ∈ pre, keyOf' t = k ∧ t.2.2.2 = v) 
def badT (m : List ((Int × Int × Int) × Int)) (t : Trl) : Bool := Option.isSome (mlkT m (keyOf' t)) && decide (Option.getD (mlkT m (keyOf' t)) 0 ≠ t.2.2.2)
theorem badT_iff {m pre} (h : Seen m pre) (hp : pre.Pairwise fun a b => clash a b = false) (t : Trl) : badT m t = true ↔ ∃ a ∈ pre, clash a t = true := by
  unfold badT
  cases hl : mlkT m (keyOf' t) with
  | none =>
    simp only [Option.isSome_none, Bool.false_and, Bool.false_eq_true, false_iff]
    rintro ⟨a, ha, hc⟩
    have := (h (keyOf' t) a.2.2.2).2 ⟨a, ha, (clash_iff.1 hc).1, rfl⟩
    rw [hl] at this; cases this
  | some v =>
    simp only [Option.isSome_some, Bool.true_and, Option.getD_some, decide_eq_true_eq]
    obtain ⟨b, hb, hk, hv⟩ := (h _ _).1 hl
    constructor
    · intro hne
      exact ⟨b, hb, clash_iff.2 ⟨hk, by rw [hv]; exact hne⟩⟩
    · rintro ⟨a, ha, hc⟩ rfl
      obtain ⟨c1, c2⟩ := clash_iff.1 hc
      have := (h (keyOf' t) a.2.2.2).2 ⟨a, ha, c1, rfl⟩
      rw [hl] at this
      exact c2 (Option.some.inj this).symm
theorem seen_next {m pre} (h : Seen m pre) {t : Trl} (hb : ∀ a ∈ pre, clash a t = false) : Seen (msetT m (keyOf' t) t.2.2.2) (pre ++ [t]) := by
  intro k v
  rw [mlkT_mset]
  by_cases hk : k = keyOf' t
  · rw [if_pos hk]
    constructor
    · intro e; exact ⟨t, by simp, hk.symm, Option.some.inj e⟩
    · rintro ⟨a, ha, h1, h2⟩
      rcases List.mem_append.1 ha with ha | ha
      · have hc := hb a ha
        have : ¬ clash a t = true := by rw [hc]; simp
        rw [clash_iff] at this
        have hne : ¬ a.2.2.2 ≠ t.2.2.2 := fun e => this ⟨h1.trans hk, e⟩
        have : a.2.2.2 = t.2.2.2 := Decidable.not_not.1 hne
        rw [← h2, this]
      · simp only [List.mem_singleton] at ha
        rw [← h2, ha]
  · rw [if_neg hk, h]
    constructor
    · rintro ⟨a, ha, h1⟩; exact ⟨a, by simp [ha], h1⟩
    · rintro ⟨a, ha, h1, h2⟩
      rcases List.mem_append.1 ha with ha | ha
      · exact ⟨a, ha, h1, h2⟩
      · simp only [List.mem_singleton] at ha
        rw [ha] at h1
        exact absurd h1.symm hk
theorem seen_fold : ∀ (rest : List Trl) (m) (pre : List Trl), Seen m pre → (pre.Pairwise fun a b => clash a b = false) →
    foldS (fun t m => if badT m t = true then (.done (.done 71) : Step _ (Step Unit Int)) else .next (msetT m (keyOf' t) t.2.2.2)) (fun _ => .next ()) rest m = if tabOk (pre ++ rest) = true then .next () else .done 71
  | [], m, pre, h, hp => by
    have := (tabOk_iff pre).2 hp
    simp [foldS, this]
  | t :: rest, m, pre, h, hp => by
    simp only [foldS]
    by_cases hb : badT m t = true
    · simp only [hb, if_true]
      obtain ⟨a, ha, hc⟩ := (badT_iff h hp t).1 hb
      have : ¬ tabOk (pre ++ t :: rest) = true := by
        rw [tabOk_iff, List.pairwise_append]
        rintro ⟨_, _, k⟩
        have := k a ha t (by simp)
        rw [hc] at this; cases this
      simp [this]
    · have hn : ∀ a ∈ pre, clash a t = false := fun a ha => by
        have := fun hc => hb ((badT_iff h hp t).2 ⟨a, ha, hc⟩)
        simpa using this
      simp only [hb, Bool.false_eq_true, if_false]
      have hp' : (pre ++ [t]).Pairwise fun a b => clash a b = false := by
        rw [List.pairwise_append]
        exact ⟨hp, by simp, fun a ha b hb => by simp only [List.mem_singleton] at hb; rw [hb]; exact hn a ha⟩
      have := seen_fold rest _ (pre ++ [t]) (seen_next h hn) hp'
      rw [this]
      simp
theorem ePCheck (w : Wsh) (h : smallW w) : S_parts_Check fcIsWorkshop.sh w = M.pure (checkV w) := by
  have hs := h
  obtain ⟨h1, h2, h3, h4⟩ := h
  unfold S_parts_Check
  simp only [FC.sh, fcIsWorkshop, M.bind_det, M.req_true hs]
  unfold checkV
  cases hw : wV w with
  | false => simp
  | true =>
    simp only [Bool.not_true, Bool.false_eq_true, if_false, if_true]
    rw [M.loop_listT w.2.2.2 (fun i (m : List ((Int × Int × Int) × Int)) => (w.2.2.2, (w.2.2.2.length : Int), (i : Int), m, ())) (fun t m => if badT m t = true then (.done (.done 71) : Step _ (Step Unit Int)) else .next (msetT m (keyOf' t) t.2.2.2)) (fun _ => .next ()) [] ?_ ?_ ?_]
    · rw [seen_fold w.2.2.2 [] [] (fun k v => by simp [mlkT_nil]) (by simp)]
      simp only [List.nil_append]
      by_cases ht : tabOk w.2.2.2 = true <;> simp [ht]
    · rfl
    · intro i hi m
      have hwr := wrap64 (n := (i : Int) + 1) (by omega) (by omega)
      simp only [ofNat_def, lt_len hi, if_true, getD_nat hi, in_len hi, M.req_True, M.bind_pure, add_def, hwr]
      exact fin_step2 (mk := fun m => (w.2.2.2, (w.2.2.2.length : Int), (i : Int) + 1, m, ()))
    · intro m
      simp
theorem sPCheck (x) : M.le (S_parts_Check fcIsWorkshop.sh x) (fcCheck.sh x) := M.le_det fun h => ePCheck x h
theorem ePFits (w : Wsh) (i n m k : Int) (hw : goodW w) (hi : isSpareV w i = true) (hm : isSlotOfV w m k = true) : S_parts_fits fcWithin.sh fcIn.sh (w, i, n, m, k) = M.pure (fitsAt w i n m k) := eFitsAt w i n m k hw hi hm
theorem sPFits (x) : M.le (S_parts_fits fcWithin.sh fcIn.sh x) (fcFitsAt.sh x) := M.le_det fun h => ePFits x.1 x.2.1 x.2.2.1 x.2.2.2.1 x.2.2.2.2 h.1 h.2.1 h.2.2
abbrev fcOpenC : FC := ⟨.prod tTrial (.prod (.ptr tI) (.prod (.ptr tW) (.ptr tI))), tB, fun x => ∃ i w n, x.2 = (some i, some w, some n) ∧ goodW w ∧ isSpareV w i = true ∧ isSlotOfV w x.1.2.1 x.1.2.2.1 = true,
  fun x => bears (x.2.2.1.getD ([], [], 0, [])) (x.2.1.getD 0) (x.2.2.2.getD 0) x.1⟩
theorem sPOpenC (x) : M.le (S_parts_open_c1 fcFitsAt.sh x) (fcOpenC.sh x) := M.le_det fun h => by
  obtain ⟨t, o⟩ := x
  obtain ⟨i, w, n, hf, hw, hi, hm⟩ := h
  change o = _ at hf
  subst hf
  unfold S_parts_open_c1
  simp only [FC.sh, M.safe_det, M.val_det, Option.getD_some, and_true, true_and, and_self, imp_self, M.req_True, ne_eq]
  by_cases ht : t.1 = i
  · have hp : goodW w ∧ isSpareV w i = true ∧ isSlotOfV w t.2.1 t.2.2.1 = true := ⟨hw, hi, hm⟩
    simp [bears, ht, hp, M.req_true hp]
  · simp [bears, ht]
def lensAll (w : Wsh) : List (List Int) := (List.range w.1.length).map fun (i : Nat) => lens w (i : Int)
noncomputable def openV (w : Wsh) (is : Bool) : Option Shp × Int := if knownV w is ≠ 0 then (none, knownV w is) else (some (w, lensAll w), 0)
noncomputable abbrev fcOpen : FC := ⟨.prod tW tB, .prod (.ptr (.st (.prod tW (.slice tInts)))) tI, fun x => smallW x.1, fun x => openV x.1 x.2⟩
theorem lens_eq {w : Wsh} {i : Int} : lens w i = (intR (spareAt w i).2.2.1 (spareAt w i).2.2.2).filter fun n => w.2.2.2.all (bears w i n) := by
  unfold lens
  refine List.filter_congr fun n hn => ?_
  rw [mem_intR] at hn
  simp [canBe, hn]
theorem foldl_first {w : Wsh} : ∀ (l : List Nat) (acc : List (List Int)), foldS (fun (i : Nat) (acc : List (List Int)) => if decide (((lens w (i : Int)).length : Int) = 0) = true then (.done (.done (none, (3 : Int))) : Step _ (Step (List Spr × List (List Slt) × Int × List Trl × List (List Int) × Unit) (Option Shp × Int))) else .next (acc ++ [lens w (i : Int)])) (fun acc => .next (w.1, w.2.1, w.2.2.1, w.2.2.2, acc, ())) l acc
    = if (l.all fun (i : Nat) => !decide (((lens w (i : Int)).length : Int) = 0)) = true then .next (w.1, w.2.1, w.2.2.1, w.2.2.2, acc ++ l.map (fun (i : Nat) => lens w (i : Int)), ()) else .done (none, 3)
  | [], acc => by simp [foldS]
  | i :: l, acc => by
    simp only [foldS, List.all_cons, List.map_cons]
    by_cases h : ((lens w (i : Int)).length : Int) = 0
    · simp [h]
    · simp only [h, decide_false, Bool.false_eq_true, if_false, Bool.not_false, Bool.true_and]
      rw [foldl_first l]
      simp
theorem ePOpen (w : Wsh) (is : Bool) (h : smallW w) : S_parts_open fcCheck.sh (fcAllF tTrial).sh fcOpenC.sh (w, is) = M.pure (openV w is) := by
  unfold S_parts_open openV knownV
  simp only [FC.sh, M.bind_det, M.req_true h]
  by_cases hc : checkV w = 0
  · have hw : goodW w := ⟨h, wV_of_check hc⟩
    have hhd := wV_head hw.2
    simp only [hc, ne_eq, not_true, decide_false, Bool.false_eq_true, if_false]
    cases is with
    | false => simp
    | true =>
      simp only [Bool.not_true, Bool.false_eq_true, if_false, Bool.true_eq_false]
      rw [M.loop_list (List.range w.1.length) (fun i (acc : List (List Int)) => (w.1, (w.1.length : Int), (i : Int), w, w.1, w.2.1, w.2.2.1, w.2.2.2, acc, ())) (fun (i : Nat) (acc : List (List Int)) => if decide (((lens w (i : Int)).length : Int) = 0) = true then (.done (.done (none, (3 : Int))) : Step _ (Step (List Spr × List (List Slt) × Int × List Trl × List (List Int) × Unit) (Option Shp × Int))) else .next (acc ++ [lens w (i : Int)])) (fun acc => .next (w.1, w.2.1, w.2.2.1, w.2.2.2, acc, ())) (fun i acc => acc.length ≤ i) [] ?_ ?_ ?_ ?_]
      · rw [foldl_first]
        have e : ((List.range w.1.length).all fun (i : Nat) => !decide (((lens w (i : Int)).length : Int) = 0)) = hasTruth w := rfl
        rw [e]
        by_cases ht : hasTruth w = true <;> simp [ht, lensAll]
      · rfl
      · simp
      · intro i hi acc hacc
        have hi : i < w.1.length := by simpa using hi
        have hsp := isSpareV_nat hi
        have hl := wV_spare hw.2 hsp
        have hwr := wrap64 (n := (i : Int) + 1) (by omega) (by omega)
        have hg : w.1[i] = spareAt w (i : Int) := by simp [spareAt, List.getD_eq_getElem?_getD, hi]
        refine ⟨?_, fun b' hb => ?_⟩
        · simp only [ofNat_def, lt_len hi, if_true, getD_nat hi, in_len hi, M.req_True, hg, List.getElem_range]
          rw [M.loop_list (intR (spareAt w (i : Int)).2.2.1 (spareAt w (i : Int)).2.2.2) (fun k (l : List Int) => (w.1, (w.1.length : Int), (i : Int), w, (i : Int), spareAt w (i : Int), l, (spareAt w (i : Int)).2.2.1 + (k : Int), w.1, w.2.1, w.2.2.1, w.2.2.2, acc, ())) (fun n l => .next (if w.2.2.2.all (bears w (i : Int) n) = true then l ++ [n] else l)) (fun l => .next (w.1, (w.1.length : Int), (i : Int), w, l, w.1, w.2.1, w.2.2.1, w.2.2.2, acc, ())) (fun k l => l.length ≤ k) [] ?_ ?_ ?_ ?_]
          · rw [foldS_next, foldl_filter_app]
            simp only [M.bind_pure, M.go_next, List.nil_append]
            rw [← lens_eq]
            by_cases hz : ((lens w (i : Int)).length : Int) = 0
            · simp [hz]
            · have hll : lenLe (acc.length + (0 + 1)) := by unfold lenLe; omega
              simp only [hz, decide_false, Bool.false_eq_true, if_false, add_def, add_defN, M.req_true hll, M.req_True, M.bind_pure, M.go_next, hwr, Step.mapN]
              rfl
          · simp
          · simp
          · intro k hk l hkl
            have hk2 : k < 1000 := by rw [intR_length] at hk; omega
            have hlo : (spareAt w (i : Int)).2.2.1 + (k : Int) ≤ (spareAt w (i : Int)).2.2.2 := by rw [intR_length] at hk; omega
            have hwr2 := wrap64 (n := (spareAt w (i : Int)).2.2.1 + ((k : Int) + 1)) (by omega) (by omega)
            have hll : lenLe (l.length + (0 + 1)) := by unfold lenLe; omega
            refine ⟨?_, fun b' hb => ?_⟩
            · have hcl : ∀ t ∈ w.2.2.2, fcOpenC.sh (t, some (i : Int), some w, some ((spareAt w (i : Int)).2.2.1 + (k : Int))) = M.pure (bears w (i : Int) ((spareAt w (i : Int)).2.2.1 + (k : Int)) t) := fun t ht => M.det_true ⟨_, _, _, rfl, hw, hsp, (wV_trial hw.2 ht).2⟩ _
              simp only [hlo, decide_true, if_true, intR_get]
              rw [M.req_true (by exact ⟨h.2.2.1, fun t ht => ⟨_, hcl t ht⟩⟩)]
              have e : (w.2.2.2.all fun y => (M.det (fcOpenC.pre (y, some (i : Int), some w, some ((spareAt w (i : Int)).2.2.1 + (k : Int)))) (fcOpenC.g (y, some (i : Int), some w, some ((spareAt w (i : Int)).2.2.1 + (k : Int))))).val false) = w.2.2.2.all (bears w (i : Int) ((spareAt w (i : Int)).2.2.1 + (k : Int))) := all_congr' fun t ht => M.val_det
              rw [e]
              by_cases hb : w.2.2.2.all (bears w (i : Int) ((spareAt w (i : Int)).2.2.1 + (k : Int))) = true
              · simp only [hb, if_true, add_def, add_defN, M.req_true hll, M.bind_pure, M.go_next, hwr2, Step.mapN, Int.natCast_add, Int.natCast_one, Int.add_assoc]
              · simp only [hb, Bool.false_eq_true, if_false, add_def, add_defN, M.bind_pure, M.go_next, hwr2, Step.mapN, Int.natCast_add, Int.natCast_one, Int.add_assoc]
            · cases hb
              split <;> (try simp only [List.length_append, List.length_singleton]) <;> omega
          · intro l hkl
            have : ¬ (spareAt w (i : Int)).2.2.1 + ((intR (spareAt w (i : Int)).2.2.1 (spareAt w (i : Int)).2.2.2).length : Int) ≤ (spareAt w (i : Int)).2.2.2 := by rw [intR_length]; omega
            simp only [this, decide_false, Bool.false_eq_true, if_false, M.bind_pure]
        · split at hb
          · cases hb
          · cases hb
            simp only [List.length_append, List.length_singleton]
            omega
      · intro acc hacc
        simp
  · simp [hc]
theorem sPOpen (x) : M.le (S_parts_open fcCheck.sh (fcAllF tTrial).sh fcOpenC.sh x) (fcOpen.sh x) := M.le_det fun h => ePOpen x.1 x.2 h
theorem sPKnown (x) : M.le (S_parts_known x) (fcIs.sh x) := M.le_det fun _ => by
  unfold S_parts_known
  simp only [isV, decide_eq_true_eq]
  split
  · rfl
  · split <;> rfl
theorem lensAll_len (w : Wsh) : (lensAll w).length = w.1.length := by simp [lensAll]
theorem lensAll_get {w : Wsh} {i : Int} (h : isSpareV w i = true) : List.getD (lensAll w) i.toNat [] = lens w i := by
  rw [isSpareV_iff] at h
  have : i.toNat < w.1.length := by omega
  have e : ((i.toNat : Nat) : Int) = i := by omega
  simp [lensAll, List.getD_eq_getElem?_getD, this, e]
abbrev tShp : Ty := .ptr (.st (.prod tW (.slice tInts)))
def isShop (o : Option Shp) (w : Wsh) : Prop := o = some (w, lensAll w) ∧ goodW w
abbrev fcShopFits : FC := ⟨.prod tShp (.prod tI (.prod tI tI)), tI, fun x => ∃ w, isShop x.1 w ∧ isSpareV w x.2.1 = true ∧ isSlotOfV w x.2.2.1 x.2.2.2 = true, fun x => fitsV ((x.1.getD (([], [], 0, []), [])).1) x.2.1 x.2.2.1 x.2.2.2⟩
theorem eShopFits (w : Wsh) (i m k : Int) (hw : goodW w) (hi : isSpareV w i = true) (hm : isSlotOfV w m k = true) : S_parts_shop_fits fcFitsAt.sh fcIs.sh (some (w, lensAll w), i, m, k) = M.pure (fitsV w i m k) := by
  unfold S_parts_shop_fits
  have hll := lens_len hw hi
  have r1 : 0 ≤ i ∧ i < ((lensAll w).length : Int) := by rw [lensAll_len]; exact isSpareV_iff.1 hi
  simp only [Option.isSome_some, Option.getD_some, M.req_True, ofNat_def, lensAll_get hi, M.req_true r1]
  rw [M.loop_list (lens w i) (fun j (n : Int) => (some (w, lensAll w), i, m, k, n, lens w i, ((lens w i).length : Int), (j : Int), ())) (fun x n => .next (if fitsAt w i x m k = true then n + 1 else n)) (fun n => .next (some (w, lensAll w), i, n, ())) (fun j n => 0 ≤ n ∧ n ≤ (j : Int)) 0 ?_ ?_ ?_ ?_]
  · rw [foldS_next, foldl_count]
    simp only [M.bind_pure, M.go_next, Option.isSome_some, Option.getD_some, M.req_True, M.req_true r1, lensAll_get hi, FC.sh, M.bind_det, Int.zero_add]
    rfl
  · rfl
  · simp
  · intro j hj n hn
    have hwj := wrap64 (n := (j : Int) + 1) (by omega) (by omega)
    have hwn := wrap64 (n := n + 1) (by omega) (by omega)
    have hp : goodW w ∧ isSpareV w i = true ∧ isSlotOfV w m k = true := ⟨hw, hi, hm⟩
    refine ⟨?_, fun b' hb => ?_⟩
    · simp only [lt_len hj, if_true, getD_nat hj, in_len hj, M.req_True, Option.isSome_some, Option.getD_some, FC.sh, M.bind_det, M.req_true hp, add_def, hwn]
      cases fitsAt w i (lens w i)[j] m k <;> simp [hwj]
    · cases hb
      split <;> omega
  · intro n hn
    simp
theorem sShopFits (x) : M.le (S_parts_shop_fits fcFitsAt.sh fcIs.sh x) (fcShopFits.sh x) := M.le_det fun h => by
  obtain ⟨o, i, m, k⟩ := x
  obtain ⟨w, ⟨hf, hw⟩, hi, hm⟩ := h
  change o = _ at hf
  subst hf
  exact eShopFits w i m k hw hi hm
theorem openV_0 {w : Wsh} {is : Bool} (h : knownV w is = 0) : openV w is = (some (w, lensAll w), 0) := by simp [openV, h]
theorem openV_1 {w : Wsh} {is : Bool} (h : knownV w is ≠ 0) : openV w is = (none, knownV w is) := by simp [openV, h]
theorem ePLength (w : Wsh) (i : Int) (h : smallW w) : S_parts_Length fcOpen.sh fcIsSpare.sh (w, i) = M.pure (lengthV w i) := by
  unfold S_parts_Length lengthV
  simp only [FC.sh, M.safe_det, M.val_det, h, M.req_True]
  by_cases hk : knownV w (isSpareV w i) = 0
  · have hw := good_of_known h hk
    have hi := (knownV_0 hk).2.1
    have hp := lens_pos (knownV_0 hk).2.2 hi
    have hll := lens_len hw hi
    have hwr := wrap64 (n := ((lens w i).length : Int) - 1) (by omega) (by omega)
    have e1 : (((lens w i).length : Int) - 1).toNat = (lens w i).length - 1 := by omega
    have r0 : 0 ≤ i ∧ i < ((lensAll w).length : Int) := by rw [lensAll_len]; exact isSpareV_iff.1 hi
    have r1 : (0 : Int) ≤ 0 ∧ (0 : Int) < ((lens w i).length : Int) := by omega
    have r2 : (0 : Int) ≤ ((lens w i).length : Int) - 1 ∧ ((lens w i).length : Int) - 1 < ((lens w i).length : Int) := by omega
    simp only [openV_0 hk, hk, ne_eq, not_true, decide_false, Bool.false_eq_true, if_false, Option.isSome_some, Option.getD_some, M.req_True, ofNat_def, lensAll_get hi, M.req_true r0, hwr, e1, M.req_true r2]
    rw [M.req_true (by exact r1)]
    rfl
  · simp [openV_1 hk, hk]
theorem sPLength (x) : M.le (S_parts_Length fcOpen.sh fcIsSpare.sh x) (fcLength.sh x) := M.le_det fun h => ePLength x.1 x.2 h
theorem ePFitsR (w : Wsh) (i m k : Int) (h : smallW w) : S_parts_Fits fcOpen.sh fcIsSpare.sh fcIsSlotOf.sh fcShopFits.sh (w, i, m, k) = M.pure (fitsR w i m k) := by
  unfold S_parts_Fits fitsR
  simp only [FC.sh, M.safe_det, M.val_det, h, M.req_True, and_true, and_self, imp_self, true_and]
  by_cases hk : knownV w (isSpareV w i && isSlotOfV w m k) = 0
  · have hw := good_of_known h hk
    have hi := (knownV_0 hk).2.1
    simp only [Bool.and_eq_true] at hi
    simp only [openV_0 hk, hk, ne_eq, not_true, decide_false, Bool.false_eq_true, if_false, M.bind_det]
    rw [M.req_true (by exact ⟨w, ⟨rfl, hw⟩, hi.1, hi.2⟩)]
    rfl
  · simp [openV_1 hk, hk]
theorem sPFitsR (x) : M.le (S_parts_Fits fcOpen.sh fcIsSpare.sh fcIsSlotOf.sh fcShopFits.sh x) (fcFits.sh x) := M.le_det fun h => ePFitsR x.1 x.2.1 x.2.2.1 x.2.2.2 h
end Go.Fer
namespace Go.Fer
open M (Step)
set_option linter.unusedVariables false
set_option linter.unusedSimpArgs false
theorem wrapU64 {n : Int} (h1 : 0 ≤ n) (h2 : n < 18446744073709551616) : IntKind.u64.wrap n = n := by
  show (if (false && decide (n % 2 ^ 64 ≥ (2 ^ (64 - 1) : Int))) = true then n % 2 ^ 64 - 2 ^ 64 else n % 2 ^ 64) = n
  have e1 : (2 : Int) ^ 64 = 18446744073709551616 := by decide
  simp only [Bool.false_and, Bool.false_eq_true, if_false, e1]
  omega
def orI (a b : Int) : Int := ((a.toNat ||| b.toNat : Nat) : Int)
theorem ofInt_small {a : Int} (h0 : 0 ≤ a) (h : a < 9223372036854775808) : (BitVec.ofInt 64 a).toNat = a.toNat := by
  rw [BitVec.toNat_ofInt]
  have : a % ((2 ^ 64 : Nat) : Int) = a := by
    have e1 : ((2 ^ 64 : Nat) : Int) = 18446744073709551616 := by decide
    rw [e1]; omega
  rw [this]
theorem or_small {a b : Nat} (h : a < 9223372036854775808) (h' : b < 9223372036854775808) : a ||| b < 9223372036854775808 := by
  have := Nat.or_lt_two_pow (x := a) (y := b) (n := 63) (by simpa using h) (by simpa using h')
  simpa using this
theorem ior_eq {a b : Int} (h0 : 0 ≤ a) (h : a < 9223372036854775808) (h0' : 0 ≤ b) (h' : b < 9223372036854775808) : ior .i64 a b = orI a b := by
  show IntKind.i64.wrap ((BitVec.ofInt 64 a ||| BitVec.ofInt 64 b).toNat : Int) = _
  rw [BitVec.toNat_or, ofInt_small h0 h, ofInt_small h0' h']
  have := or_small (a := a.toNat) (b := b.toNat) (by omega) (by omega)
  exact wrap64 (by omega) (by omega)
theorem ishl_one {k : Nat} (h : k < 63) : ishl .i64 1 (k : Int) = ((2 ^ k : Nat) : Int) := by
  show IntKind.i64.wrap (1 * 2 ^ (min ((k : Int).toNat) 64)) = _
  have e : min ((k : Int).toNat) 64 = k := by omega
  rw [e, Int.one_mul]
  have h2 : (2 : Nat) ^ k ≤ 2 ^ 62 := Nat.pow_le_pow_right (by omega) (by omega)
  have e3 : (2 : Nat) ^ 62 = 4611686018427387904 := by decide
  have e2 : (2 : Int) ^ k = ((2 ^ k : Nat) : Int) := by simp
  rw [e2]
  rw [e3] at h2
  generalize 2 ^ k = p at h2
  exact wrap64 (by omega) (by omega)
theorem nodup_bound : ∀ (n : Nat) (l : List Int), l.Nodup → (∀ x ∈ l, 0 ≤ x ∧ x < (n : Int)) → l.length ≤ n
  | 0, l, _, h => by
    cases l with
    | nil => simp
    | cons x l => have := h x (by simp); omega
  | n + 1, l, hn, h => by
    have h2 := nodup_bound n (l.erase (n : Int)) (hn.erase _) fun x hx => by
      have h1 := h x (List.mem_of_mem_erase hx)
      have h3 : x ≠ (n : Int) := fun e => by rw [hn.mem_erase_iff] at hx; exact hx.1 e
      omega
    rw [List.length_erase] at h2
    split at h2 <;> omega
def isListV (w : Wsh) (l : List Int) : Bool := l.all (isSpareV w) && ascV l
abbrev fcIsList : FC := ⟨.prod tW tInts, tB, fun x => smallW x.1 ∧ x.2.length < 2 ^ 63, fun x => isListV x.1 x.2⟩
theorem eIsList (w : Wsh) (l : List Int) (h : smallW w) (hl : l.length < 2 ^ 63) : S_ref07_isList fcIsSpare.sh fcAscending.sh (w, l) = M.pure (isListV w l) := by
  unfold S_ref07_isList
  rw [M.loop_listT l (fun i (_ : Unit) => (l, (i : Int), w, ())) (fun n b => if (!isSpareV w n) = true then .done (.done false) else .next b) (fun _ => .next (l, ())) () ?_ ?_ ?_]
  · rw [foldS_anyN (q := isSpareV w) _ _ (fun _ => rfl)]
    unfold isListV
    cases l.all (isSpareV w) with
    | false => simp
    | true => simp only [if_true, M.bind_pure, M.go_next, FC.sh, M.bind_det, M.req_true hl, Bool.true_and]
  · rfl
  · intro i hi b
    have hw := wrap64 (n := (i : Int) + 1) (by omega) (by omega)
    simp only [ofNat_def, lt_len hi, if_true, getD_nat hi, in_len hi, M.req_True, FC.sh, M.safe_det, M.val_det, M.req_true h, M.bind_pure, add_def, hw]
    exact fin_step (mk := fun _ : Unit => (l, (i : Int) + 1, w, ()))
  · intro b
    simp
theorem sIsList (x) : M.le (S_ref07_isList fcIsSpare.sh fcAscending.sh x) (fcIsList.sh x) := M.le_det fun h => eIsList x.1 x.2 h.1 h.2
def covN (w : Wsh) (i n m : Int) : Nat := (List.range (slotsOfV w m).length).foldl (fun b (k : Nat) => if fitsAt w i n m (k : Int) = true then b ||| 2 ^ k else b) 0
theorem foldl_cov_lt {p : Nat → Bool} (s : Nat) : ∀ (l : List Nat) (b : Nat), (∀ k ∈ l, k < s) → b < 2 ^ s → l.foldl (fun b k => if p k = true then b ||| 2 ^ k else b) b < 2 ^ s
  | [], b, _, hb => hb
  | k :: l, b, hl, hb => by
    simp only [List.foldl_cons]
    refine foldl_cov_lt s l _ (fun j hj => hl j (List.mem_cons_of_mem _ hj)) ?_
    split
    · exact Nat.or_lt_two_pow hb (Nat.pow_lt_pow_right (by omega) (hl k (by simp)))
    · exact hb
theorem covN_lt (w : Wsh) (i n m : Int) : covN w i n m < 2 ^ (slotsOfV w m).length := foldl_cov_lt _ _ _ (fun k hk => by simpa using hk) (Nat.two_pow_pos _)
def covV (w : Wsh) (i n m : Int) : Int := (covN w i n m : Int)
theorem slots_le {w : Wsh} (hw : goodW w) {m : Int} (hm : isMakeV w m = true) : (slotsOfV w m).length ≤ 4 := by
  rw [isMakeV_iff] at hm
  have := (wV_split hw.2).2.2.1 _ (getD_mem (d := []) hm.1 hm.2)
  simp only [makeV, Bool.and_eq_true, Bool.not_eq_true', decide_eq_false_iff_not] at this
  unfold slotsOfV
  omega
theorem covV_16 {w : Wsh} (hw : goodW w) {m : Int} (hm : isMakeV w m = true) (i n : Int) : 0 ≤ covV w i n m ∧ covV w i n m < 16 := by
  have h1 := covN_lt w i n m
  have h2 : 2 ^ (slotsOfV w m).length ≤ 2 ^ 4 := Nat.pow_le_pow_right (by omega) (slots_le hw hm)
  unfold covV
  omega
theorem isSlotOfV_nat {w : Wsh} {m : Int} (hm : isMakeV w m = true) {k : Nat} (hk : k < (slotsOfV w m).length) : isSlotOfV w m (k : Int) = true := by
  rw [isSlotOfV_iff]
  exact ⟨isMakeV_iff.1 hm, by omega, by omega⟩
abbrev fcCovers : FC := ⟨.prod tW (.prod tI (.prod tI tI)), tI, fun x => goodW x.1 ∧ isSpareV x.1 x.2.1 = true ∧ isMakeV x.1 x.2.2.2 = true, fun x => covV x.1 x.2.1 x.2.2.1 x.2.2.2⟩
theorem eCovers (w : Wsh) (i n m : Int) (hw : goodW w) (hi : isSpareV w i = true) (hm : isMakeV w m = true) : S_ref07_covers fcFitsAt.sh (w, i, n, m) = M.pure (covV w i n m) := by
  unfold S_ref07_covers
  have r1 := isMakeV_iff.1 hm
  have hs := slots_le hw hm
  have hg : List.getD w.2.1 m.toNat [] = slotsOfV w m := rfl
  rw [M.loop_list (List.range (slotsOfV w m).length) (fun k (b : Nat) => (i, n, m, (b : Int), (k : Int), w, ())) (fun (k : Nat) b => .next (if fitsAt w i n m (k : Int) = true then b ||| 2 ^ k else b)) (fun b => .next ((b : Int), ())) (fun k b => b < 2 ^ 4) 0 ?_ ?_ ?_ ?_]
  · rw [foldS_next]
    simp only [M.bind_pure, M.go_next]
    rfl
  · rfl
  · decide
  · intro k hk b hb
    have hk : k < (slotsOfV w m).length := by simpa using hk
    have hb : b < 16 := by simpa using hb
    have hwk := wrap64 (n := (k : Int) + 1) (by omega) (by omega)
    have hwu := wrapU64 (n := (k : Int)) (by omega) (by omega)
    have hp : goodW w ∧ isSpareV w i = true ∧ isSlotOfV w m (k : Int) = true := ⟨hw, hi, isSlotOfV_nat hm hk⟩
    have h2 : 2 ^ k < 2 ^ 4 := Nat.pow_lt_pow_right (by omega) (by omega)
    have h2' : 2 ^ k < 16 := by simpa using h2
    have ho : ior .i64 (b : Int) ((2 ^ k : Nat) : Int) = orI (b : Int) ((2 ^ k : Nat) : Int) := by
      generalize 2 ^ k = P at h2'
      exact ior_eq (by omega) (by omega) (by omega) (by omega)
    have ho2 : orI (b : Int) ((2 ^ k : Nat) : Int) = ((b ||| 2 ^ k : Nat) : Int) := by unfold orI; simp only [Int.toNat_natCast]
    refine ⟨?_, fun b' hb' => ?_⟩
    · simp only [M.req_true r1, ofNat_def, hg, lt_len hk, if_true, FC.sh, M.bind_det, M.req_true hp, List.getElem_range]
      by_cases hf : fitsAt w i n m (k : Int) = true
      · simp only [hf, if_true, hwu, Int.natCast_nonneg, M.req_True, ishl_one (k := k) (by omega), ho, ho2, M.bind_pure, M.go_next, add_def, hwk]
        rfl
      · simp only [hf, Bool.false_eq_true, if_false, M.bind_pure, M.go_next, add_def, hwk]
        rfl
    · cases hb'
      split
      · exact Nat.or_lt_two_pow (n := 4) (by simpa using hb) (by simpa using h2')
      · simpa using hb
  · intro b hb
    simp only [M.req_true r1, ofNat_def, hg, List.length_range, Int.lt_irrefl, decide_false, Bool.false_eq_true, if_false, M.bind_pure]
theorem sCovers (x) : M.le (S_ref07_covers fcFitsAt.sh x) (fcCovers.sh x) := M.le_det fun h => eCovers x.1 x.2.1 x.2.2.1 x.2.2.2 h.1 h.2.1 h.2.2
def addN (l : List Int) (c : Int) : List Int := if l.contains c = true then l else l ++ [c]
theorem addN_len (l : List Int) (c : Int) : (addN l c).length ≤ l.length + 1 := by unfold addN; split <;> simp
theorem addN_nodup {l : List Int} (h : l.Nodup) (c : Int) : (addN l c).Nodup := by
  unfold addN
  split
  · exact h
  · rename_i hc
    have hc : c ∉ l := by simpa using hc
    rw [List.nodup_append]
    exact ⟨h, by simp, fun a ha b hb => by simp only [List.mem_singleton] at hb; rw [hb]; exact fun e => hc (e ▸ ha)⟩
theorem mem_addN {l : List Int} {c x : Int} : x ∈ addN l c ↔ x ∈ l ∨ x = c := by
  unfold addN
  split
  · rename_i hc
    have hc : c ∈ l := by simpa using hc
    exact ⟨.inl, fun h => h.elim id fun e => e ▸ hc⟩
  · simp
def caseV (w : Wsh) (i m : Int) : List Int := (lens w i).foldl (fun own n => addN own (covV w i n m)) []
def casesV (w : Wsh) (m : Int) : List (List Int) := (List.range w.1.length).map fun (i : Nat) => caseV w (i : Int) m
abbrev fcCases : FC := ⟨.prod tW tI, .slice tInts, fun x => goodW x.1 ∧ isMakeV x.1 x.2 = true, fun x => casesV x.1 x.2⟩
theorem eCases (w : Wsh) (m : Int) (hw : goodW w) (hm : isMakeV w m = true) : S_ref07_cases fcIn.sh fcAll.sh fcCovers.sh (w, m) = M.pure (casesV w m) := by
  unfold S_ref07_cases
  have hhd := wV_head hw.2
  rw [M.loop_list (List.range w.1.length) (fun i (acc : List (List Int)) => (m, (i : Int), w, acc, ())) (fun (i : Nat) acc => .next (acc ++ [caseV w (i : Int) m])) (fun acc => .next (acc, ())) (fun i acc => acc.length ≤ i) [] ?_ ?_ ?_ ?_]
  · rw [foldS_next, foldl_map_app]
    simp only [M.bind_pure, M.go_next, List.nil_append]
    rfl
  · rfl
  · simp
  · intro i hi acc hacc
    have hi : i < w.1.length := by simpa using hi
    have hsp := isSpareV_nat hi
    have hll := lens_len hw hsp
    have hwr := wrap64 (n := (i : Int) + 1) (by omega) (by omega)
    have hp : goodW w ∧ isSpareV w (i : Int) = true := ⟨hw, hsp⟩
    refine ⟨?_, fun b' hb' => ?_⟩
    · simp only [ofNat_def, lt_len hi, if_true, FC.sh, M.bind_det, M.req_true hp, List.getElem_range]
      rw [M.loop_list (lens w (i : Int)) (fun j (own : List Int) => (m, (i : Int), lens w (i : Int), (j : Int), w, acc, own, ())) (fun n own => .next (addN own (covV w (i : Int) n m))) (fun own => .next (m, (i : Int), w, acc, own, ())) (fun j own => own.length ≤ j) [] ?_ ?_ ?_ ?_]
      · rw [foldS_next]
        have hl2 : lenLe (acc.length + (0 + 1)) := by unfold lenLe; omega
        simp only [M.bind_pure, M.go_next, add_def, add_defN, M.req_true hl2, hwr]
        rfl
      · rfl
      · simp
      · intro j hj own hown
        have hwj := wrap64 (n := (j : Int) + 1) (by omega) (by omega)
        have hl2 : lenLe (own.length + (0 + 1)) := by unfold lenLe; omega
        have hp2 : goodW w ∧ isSpareV w (i : Int) = true ∧ isMakeV w m = true := ⟨hw, hsp, hm⟩
        have hin : own.length < 2 ^ 63 := by omega
        refine ⟨?_, fun b' hb' => ?_⟩
        · simp only [lt_len hj, if_true, getD_nat hj, in_len hj, M.req_True, M.safe_det, M.val_det, M.req_true hp2, M.req_true hin]
          unfold addN
          by_cases hc : own.contains (covV w (i : Int) (lens w (i : Int))[j] m) = true
          · simp only [hc, Bool.not_true, Bool.false_eq_true, if_false, if_true, M.bind_pure, M.go_next, add_def, hwj]
            rfl
          · simp only [hc, Bool.not_false, Bool.false_eq_true, if_false, if_true, add_defN, M.req_true hl2, M.bind_pure, M.go_next, add_def, hwj]
            rfl
        · cases hb'
          exact Nat.le_trans (addN_len _ _) (by omega)
      · intro own hown
        simp
    · cases hb'
      simp only [List.length_append, List.length_singleton]
      omega
  · intro acc hacc
    simp
theorem sCases (x) : M.le (S_ref07_cases fcIn.sh fcAll.sh fcCovers.sh x) (fcCases.sh x) := M.le_det fun h => eCases x.1 x.2 h.1 h.2
end Go.Fer
namespace Go.Fer
open M (Step)
set_option linter.unusedVariables false
set_option linter.unusedSimpArgs false
def small16 (l : List Int) : Prop := ∀ x ∈ l, 0 ≤ x ∧ x < 16
theorem orI_16 {a b : Int} (h : 0 ≤ a ∧ a < 16) (h' : 0 ≤ b ∧ b < 16) : 0 ≤ orI a b ∧ orI a b < 16 := by
  unfold orI
  have := Nat.or_lt_two_pow (x := a.toNat) (y := b.toNat) (n := 4) (by omega) (by omega)
  simp at this
  omega
theorem ior_16 {a b : Int} (h : 0 ≤ a ∧ a < 16) (h' : 0 ≤ b ∧ b < 16) : ior .i64 a b = orI a b := ior_eq (by omega) (by omega) (by omega) (by omega)
def Fine (l : List Int) : Prop := l.Nodup ∧ small16 l
theorem Fine.len {l : List Int} (h : Fine l) : l.length ≤ 16 := nodup_bound 16 l h.1 h.2
theorem Fine.add {l : List Int} (h : Fine l) {c : Int} (hc : 0 ≤ c ∧ c < 16) : Fine (addN l c) :=
  ⟨addN_nodup h.1 c, fun x hx => by
    rcases mem_addN.1 hx with k | rfl
    · exact h.2 x k
    · exact hc⟩
def stepIn (c : Int) (can next : List Int) : List Int := can.foldl (fun next b => addN next (orI b c)) next
def stepC (can l : List Int) : List Int := l.foldl (fun next c => stepIn c can next) []
theorem stepIn_fine {c : Int} (hc : 0 ≤ c ∧ c < 16) : ∀ {can next : List Int}, small16 can → Fine next → Fine (stepIn c can next)
  | [], _, _, h => h
  | b :: can, next, hs, h => stepIn_fine (can := can) hc (fun x hx => hs x (List.mem_cons_of_mem _ hx)) (h.add (orI_16 (hs b (by simp)) hc))
theorem foldl_fine {can : List Int} (hcan : small16 can) : ∀ (l next : List Int), small16 l → Fine next → Fine (l.foldl (fun next c => stepIn c can next) next)
  | [], _, _, h => h
  | c :: l, next, hs, h => foldl_fine hcan l _ (fun x hx => hs x (List.mem_cons_of_mem _ hx)) (stepIn_fine (hs c (by simp)) hcan h)
theorem stepC_fine {can l : List Int} (hcan : small16 can) (hl : small16 l) : Fine (stepC can l) := foldl_fine hcan l [] hl ⟨List.nodup_nil, fun x hx => by cases hx⟩
def canV (each : List (List Int)) (list : List Int) : List Int := list.foldl (fun can i => stepC can (each.getD i.toNat [])) [0]
def fullV (w : Wsh) (m : Int) : Int := ((2 ^ (slotsOfV w m).length : Nat) : Int) - 1
def mendsV (w : Wsh) (each : List (List Int)) (list : List Int) (m : Int) : Int := isV ((canV each list).countP fun b => decide (b = fullV w m) : Int) ((canV each list).length : Int)
def mendsP (w : Wsh) (each : List (List Int)) (list : List Int) (m : Int) : Prop := goodW w ∧ isMakeV w m = true ∧ each.length < 2 ^ 63 ∧ list.length < 2 ^ 63 ∧ (∀ l ∈ each, l.length < 2 ^ 63 ∧ small16 l) ∧ ∀ i ∈ list, 0 ≤ i ∧ i < (each.length : Int)
abbrev fcMends0 : FC := ⟨.prod tW (.prod (.slice tInts) (.prod tInts tI)), tI, fun x => mendsP x.1 x.2.1 x.2.2.1 x.2.2.2, fun x => mendsV x.1 x.2.1 x.2.2.1 x.2.2.2⟩
theorem eMends0 (w : Wsh) (each : List (List Int)) (list : List Int) (m : Int) (h : mendsP w each list m) : S_ref07_mends fcIn.sh fcIs.sh (w, each, list, m) = M.pure (mendsV w each list m) := by
  obtain ⟨hw, hm, h1, h2, h3, h4⟩ := h
  have r1 := isMakeV_iff.1 hm
  have hsl := slots_le hw hm
  have hg : List.getD w.2.1 m.toNat [] = slotsOfV w m := rfl
  have z16 : Fine [0] := ⟨by simp, fun x hx => by simp at hx; omega⟩
  unfold S_ref07_mends
  rw [M.loop_list list (fun j (can : List Int) => (each, list, m, can, (j : Int), w, ())) (fun i can => .next (stepC can (each.getD i.toNat []))) (fun can => .next (m, can, w, ())) (fun _ can => Fine can) [0] ?_ ?_ ?_ ?_]
  · rw [foldS_next]
    have hc : ∀ (l : List Int) (can : List Int), (∀ i ∈ l, 0 ≤ i ∧ i < (each.length : Int)) → Fine can → Fine (l.foldl (fun can i => stepC can (each.getD i.toNat [])) can) := by
      intro l
      induction l with
      | nil => intro can _ h; exact h
      | cons i l ih =>
        intro can hl h
        have hi := hl i (by simp)
        exact ih _ (fun j hj => hl j (List.mem_cons_of_mem _ hj)) (stepC_fine h.2 (h3 _ (getD_mem hi.1 hi.2)).2)
    have hfc : Fine (canV each list) := hc list [0] h4 z16
    have hfl := hfc.len
    simp only [M.bind_pure, M.go_next]
    show M.bind (M.loop _ (m, canV each list, 0, 0, w, ())) _ = _
    rw [M.loop_list (canV each list) (fun j (n : Int) => (m, canV each list, n, (j : Int), w, ())) (fun b n => .next (if decide (b = fullV w m) = true then n + 1 else n)) (fun n => .next (canV each list, n, ())) (fun j n => 0 ≤ n ∧ n ≤ (j : Int)) 0 ?_ ?_ ?_ ?_]
    · rw [foldS_next, foldl_count]
      simp only [M.bind_pure, M.go_next, FC.sh, M.bind_det, M.req_True, Int.zero_add, ofNat_def]
      rfl
    · rfl
    · simp
    · intro j hj n hn
      have hwj := wrap64 (n := (j : Int) + 1) (by omega) (by omega)
      have hwn := wrap64 (n := n + 1) (by omega) (by omega)
      have hwu := wrapU64 (n := ((slotsOfV w m).length : Int)) (by omega) (by omega)
      have hpw : 2 ^ (slotsOfV w m).length ≤ 16 := Nat.le_trans (Nat.pow_le_pow_right (by omega) hsl) (by decide : 2 ^ 4 ≤ 16)
      have hnn : (0 : Int) ≤ ((slotsOfV w m).length : Int) := by omega
      have hfu : IntKind.i64.wrap (((2 ^ (slotsOfV w m).length : Nat) : Int) - 1) = fullV w m := by
        unfold fullV
        generalize 2 ^ (slotsOfV w m).length = P at hpw
        exact wrap64 (by omega) (by omega)
      refine ⟨?_, fun b' hb => ?_⟩
      · simp only [ofNat_def, lt_len hj, if_true, getD_nat hj, in_len hj, M.req_True, M.req_true r1, hg, hwu, M.req_true hnn, ishl_one (k := (slotsOfV w m).length) (by omega), hfu, add_def, hwn]
        by_cases hb : (canV each list)[j] = fullV w m
        · simp only [hb, decide_true, if_true, M.bind_pure, M.go_next, hwj]; rfl
        · simp only [hb, decide_false, Bool.false_eq_true, if_false, M.bind_pure, M.go_next, hwj]; rfl
      · cases hb
        split <;> omega
    · intro n hn
      simp
  · rfl
  · exact z16
  · intro j hj can hcan
    have hwj := wrap64 (n := (j : Int) + 1) (by omega) (by omega)
    have hi := h4 list[j] (List.getElem_mem hj)
    have hl := h3 (each.getD (list[j]).toNat []) (getD_mem hi.1 hi.2)
    refine ⟨?_, fun b' hb' => ?_⟩
    · simp only [ofNat_def, lt_len hj, if_true, getD_nat hj, in_len hj, M.req_True, M.req_true hi]
      generalize List.getD each (list[j]).toNat [] = L at hl
      rw [M.loop_list L (fun k (next : List Int) => (each, list, m, can, (j : Int), L, (k : Int), w, next, ())) (fun c next => .next (stepIn c can next)) (fun next => .next (each, list, m, (j : Int), w, next, ())) (fun _ next => Fine next) [] ?_ ?_ ?_ ?_]
      · rw [foldS_next]
        simp only [M.bind_pure, M.go_next, add_def, hwj]
        rfl
      · rfl
      · exact ⟨List.nodup_nil, fun x hx => by cases hx⟩
      · intro k hk next hnext
        have hwk := wrap64 (n := (k : Int) + 1) (by omega) (by omega)
        have hc16 := hl.2 L[k] (List.getElem_mem hk)
        have hcl := hcan.len
        refine ⟨?_, fun b' hb' => ?_⟩
        · simp only [lt_len hk, if_true]
          rw [M.loop_list can (fun q (next : List Int) => (each, list, m, can, (j : Int), L, (k : Int), (q : Int), w, next, ())) (fun b next => .next (addN next (orI b L[k]))) (fun next => .next (each, list, m, can, (j : Int), L, (k : Int), w, next, ())) (fun _ next => Fine next) next ?_ ?_ ?_ ?_]
          · rw [foldS_next]
            simp only [M.bind_pure, M.go_next, add_def, hwk]
            rfl
          · rfl
          · exact hnext
          · intro q hq nx hnx
            have hwq := wrap64 (n := (q : Int) + 1) (by omega) (by omega)
            have hb16 := hcan.2 can[q] (List.getElem_mem hq)
            have hll : lenLe (nx.length + (0 + 1)) := by have := hnx.len; unfold lenLe; omega
            have hin : nx.length < 2 ^ 63 := by have := hnx.len; omega
            refine ⟨?_, fun b' hb' => ?_⟩
            · simp only [lt_len hq, if_true, getD_nat hq, getD_nat hk, in_len hq, in_len hk, M.req_True, ior_16 hb16 hc16, FC.sh, M.bind_det, M.req_true hin]
              unfold addN
              by_cases hc : nx.contains (orI can[q] L[k]) = true
              · simp only [hc, Bool.not_true, Bool.false_eq_true, if_false, if_true, M.bind_pure, M.go_next, add_def, hwq]
                rfl
              · simp only [hc, Bool.not_false, Bool.false_eq_true, if_false, if_true, add_defN, M.req_true hll, M.bind_pure, M.go_next, add_def, hwq]
                rfl
            · cases hb'
              exact hnx.add (orI_16 hb16 hc16)
          · intro nx hnx
            simp
        · cases hb'
          exact stepIn_fine hc16 hcan.2 hnext
      · intro next hnext
        simp
    · cases hb'
      exact stepC_fine hcan.2 hl.2
  · intro can hcan
    simp
theorem sMends0 (x) : M.le (S_ref07_mends fcIn.sh fcIs.sh x) (fcMends0.sh x) := M.le_det fun h => eMends0 x.1 x.2.1 x.2.2.1 x.2.2.2 h
theorem caseV_fine {w : Wsh} (hw : goodW w) {m : Int} (hm : isMakeV w m = true) (i : Int) : Fine (caseV w i m) := by
  unfold caseV
  have : ∀ (l own : List Int), Fine own → Fine (l.foldl (fun own n => addN own (covV w i n m)) own) := by
    intro l
    induction l with
    | nil => intro own h; exact h
    | cons n l ih => intro own h; exact ih _ (h.add (covV_16 hw hm i n))
  exact this _ _ ⟨List.nodup_nil, fun x hx => by cases hx⟩
theorem mendsP_of {w : Wsh} (hw : goodW w) {list : List Int} (hl : list.length < 2 ^ 63) (hs : ∀ i ∈ list, isSpareV w i = true) {m : Int} (hm : isMakeV w m = true) : mendsP w (casesV w m) list m := by
  have h0 := (wV_head hw.2).1
  refine ⟨hw, hm, by simp [casesV]; omega, hl, fun l hl => ?_, fun i hi => ?_⟩
  · simp only [casesV, List.mem_map] at hl
    obtain ⟨i, _, rfl⟩ := hl
    have := caseV_fine hw hm (i : Int)
    exact ⟨by have := this.len; omega, this.2⟩
  · have := isSpareV_iff.1 (hs i hi)
    simpa [casesV] using this
def mendV (w : Wsh) (list : List Int) (m : Int) : Int := mendsV w (casesV w m) list m
theorem isListV_mem {w : Wsh} {l : List Int} (h : isListV w l = true) : ∀ i ∈ l, isSpareV w i = true := by
  simp only [isListV, Bool.and_eq_true, List.all_eq_true] at h
  exact h.1
def mendsR (w : Wsh) (list : List Int) (m : Int) : Int × Int := if knownV w (isListV w list && isMakeV w m) ≠ 0 then (0, knownV w (isListV w list && isMakeV w m)) else (mendV w list m, 0)
abbrev fcMends : FC := ⟨.prod tW (.prod tInts tI), .prod tI tI, fun x => smallW x.1 ∧ x.2.1.length < 2 ^ 63, fun x => mendsR x.1 x.2.1 x.2.2⟩
theorem eMends (w : Wsh) (list : List Int) (m : Int) (h : smallW w) (hl : list.length < 2 ^ 63) : S_ref07_Mends fcIsMake.sh fcKnown0.sh fcIsList.sh fcMends0.sh fcCases.sh (w, list, m) = M.pure (mendsR w list m) := by
  unfold S_ref07_Mends mendsR
  have hp : smallW w ∧ list.length < 2 ^ 63 := ⟨h, hl⟩
  simp only [FC.sh, M.safe_det, M.val_det, M.req_true hp, and_true, and_self, imp_self, true_and, M.req_True]
  rw [M.req_true (by exact fun a => ⟨a, h⟩), M.req_true h]
  by_cases hk : knownV w (isListV w list && isMakeV w m) = 0
  · have hw := good_of_known h hk
    have hi := (knownV_0 hk).2.1
    simp only [Bool.and_eq_true] at hi
    have hp2 : goodW w ∧ isMakeV w m = true := ⟨hw, hi.2⟩
    have hp3 := mendsP_of hw hl (isListV_mem hi.1) hi.2
    simp only [hk, ne_eq, not_true, decide_false, Bool.false_eq_true, if_false]
    rw [M.req_true hp2, M.req_true hp3]
    rfl
  · simp [hk]
theorem sMends (x) : M.le (S_ref07_Mends fcIsMake.sh fcKnown0.sh fcIsList.sh fcMends0.sh fcCases.sh x) (fcMends.sh x) := M.le_det fun h => eMends x.1 x.2.1 x.2.2 h.1 h.2
theorem isMakeV_nat {w : Wsh} {i : Nat} (h : i < w.2.1.length) : isMakeV w (i : Int) = true := by rw [isMakeV_iff]; omega
def mendsAllV (w : Wsh) (list : List Int) : Bool := (List.range w.2.1.length).all fun (m : Nat) => decide (mendV w list (m : Int) = 1)
abbrev fcMendsAll : FC := ⟨.prod tW tInts, tB, fun x => goodW x.1 ∧ x.2.length < 2 ^ 63, fun x => isListV x.1 x.2 && mendsAllV x.1 x.2⟩
theorem eMendsAll (w : Wsh) (list : List Int) (hw : goodW w) (hl : list.length < 2 ^ 63) : S_ref07_MendsAll fcIsList.sh fcMends0.sh fcCases.sh (w, list) = M.pure (isListV w list && mendsAllV w list) := by
  unfold S_ref07_MendsAll
  have hp : smallW w ∧ list.length < 2 ^ 63 := ⟨hw.1, hl⟩
  have hhd := wV_head hw.2
  simp only [FC.sh, M.bind_det, M.req_true hp]
  cases hi : isListV w list with
  | false => simp
  | true =>
    simp only [Bool.not_true, Bool.false_eq_true, if_false, Bool.true_and]
    rw [M.loop_listT (List.range w.2.1.length) (fun m (_ : Unit) => (list, (m : Int), w, ())) (fun (m : Nat) b => if decide (mendV w list (m : Int) ≠ 1) = true then .done (.done false) else .next b) (fun _ => .next ()) () ?_ ?_ ?_]
    · rw [foldS_anyN (q := fun (m : Nat) => decide (mendV w list (m : Int) = 1)) _ _ (fun m => by simp)]
      have e : ((List.range w.2.1.length).all fun (m : Nat) => decide (mendV w list (m : Int) = 1)) = mendsAllV w list := rfl
      rw [e]
      cases mendsAllV w list <;> simp
    · rfl
    · intro m hm b
      have hm : m < w.2.1.length := by simpa using hm
      have hwr := wrap64 (n := (m : Int) + 1) (by omega) (by omega)
      have hp2 : goodW w ∧ isMakeV w (m : Int) = true := ⟨hw, isMakeV_nat hm⟩
      have hp3 := mendsP_of hw hl (isListV_mem hi) (isMakeV_nat hm)
      simp only [ofNat_def, lt_len hm, if_true, List.getElem_range, M.safe_det, M.val_det, M.req_true hp2, M.req_true hp3, M.bind_pure, add_def, hwr]
      exact fin_step (mk := fun _ : Unit => (list, (m : Int) + 1, w, ()))
    · intro b
      simp
theorem sMendsAll (x) : M.le (S_ref07_MendsAll fcIsList.sh fcMends0.sh fcCases.sh x) (fcMendsAll.sh x) := M.le_det fun h => eMendsAll x.1 x.2 h.1 h.2
end Go.Fer
namespace Go.Fer
open M (Step)
set_option linter.unusedVariables false
set_option linter.unusedSimpArgs false
theorem ishr_nat {k : IntKind} (hk : k.bits = 64) {a i : Nat} (h : i < 63) : ishr k (a : Int) (i : Int) = ((a / 2 ^ i : Nat) : Int) := by
  show (a : Int).fdiv (2 ^ (min ((i : Int).toNat) k.bits)) = _
  have e : min ((i : Int).toNat) k.bits = i := by rw [hk]; omega
  rw [e]
  have e2 : (2 : Int) ^ i = ((2 ^ i : Nat) : Int) := by simp
  rw [e2, Int.fdiv_eq_ediv_of_nonneg _ (Int.natCast_nonneg _)]
  rfl
theorem iand_one {a : Nat} (h : a < 9223372036854775808) : iand .i64 (a : Int) 1 = ((a % 2 : Nat) : Int) := by
  show IntKind.i64.wrap ((BitVec.ofInt 64 (a : Int) &&& BitVec.ofInt 64 1).toNat : Int) = _
  rw [BitVec.toNat_and, ofInt_small (by omega) (by omega), ofInt_small (by omega) (by omega)]
  have e : ((1 : Int).toNat) = 1 := rfl
  rw [e, Int.toNat_natCast, Nat.and_one_is_mod]
  exact wrap64 (by omega) (by omega)
theorem iand_oneU {a : Nat} (h : a < 9223372036854775808) : iand .u64 (a : Int) 1 = ((a % 2 : Nat) : Int) := by
  show IntKind.u64.wrap ((BitVec.ofInt 64 (a : Int) &&& BitVec.ofInt 64 1).toNat : Int) = _
  rw [BitVec.toNat_and, ofInt_small (by omega) (by omega), ofInt_small (by omega) (by omega)]
  have e : ((1 : Int).toNat) = 1 := rfl
  rw [e, Int.toNat_natCast, Nat.and_one_is_mod]
  exact wrapU64 (by omega) (by omega)
def bitsL (n b : Nat) : List Int := ((List.range n).filter fun i => decide (b / 2 ^ i % 2 = 1)).map fun (i : Nat) => (i : Int)
theorem foldl_filter_map {α β : Type} {p : α → Bool} {g : α → β} : ∀ (l : List α) (b : List β), l.foldl (fun b x => if p x = true then b ++ [g x] else b) b = b ++ (l.filter p).map g
  | [], b => by simp
  | x :: l, b => by
    simp only [List.foldl_cons, List.filter_cons]
    rw [foldl_filter_map l]
    split <;> simp
theorem bitsL_len (n b : Nat) : (bitsL n b).length ≤ n := by
  unfold bitsL
  have := List.length_filter_le (fun i => decide (b / 2 ^ i % 2 = 1)) (List.range n)
  simpa using this
theorem bitsL_mem {n b : Nat} {i : Int} (h : i ∈ bitsL n b) : 0 ≤ i ∧ i < (n : Int) := by
  simp only [bitsL, List.mem_map, List.mem_filter, List.mem_range] at h
  obtain ⟨k, ⟨hk, _⟩, rfl⟩ := h
  omega
def firstLen (out : List (List Int)) : Int := ((out.getD 0 []).length : Int)
def stepL (w : Wsh) (out : List (List Int)) (b : Nat) : List (List Int) :=
  if (decide ((out.length : Int) > 0) && decide (((bitsL w.1.length b).length : Int) > firstLen out)) = true then out
  else if mendsAllV w (bitsL w.1.length b) = true then (if (decide ((out.length : Int) > 0) && decide (((bitsL w.1.length b).length : Int) < firstLen out)) = true then [] else out) ++ [bitsL w.1.length b]
  else out
def listsV (w : Wsh) : List (List Int) := (List.range (2 ^ w.1.length)).foldl (stepL w) []
abbrev fcLists : FC := ⟨tW, .slice tInts, goodW, listsV⟩
theorem foldl_all {α : Type} {p : α → Bool} : ∀ (l : List α) (b : Bool), l.foldl (fun b x => b && p x) b = (b && l.all p)
  | [], b => by simp
  | x :: l, b => by simp only [List.foldl_cons, List.all_cons]; rw [foldl_all l, Bool.and_assoc]
theorem stepL_len (w : Wsh) (out : List (List Int)) (b : Nat) : (stepL w out b).length ≤ out.length + 1 := by
  unfold stepL
  split
  · omega
  · split
    · split <;> simp
    · omega
theorem eLists (w : Wsh) (hw : goodW w) : S_ref07_lists fcMends0.sh fcCases.sh w = M.pure (listsV w) := by
  have hhd := wV_head hw.2
  have hpw : 2 ^ w.1.length ≤ 1024 := Nat.le_trans (Nat.pow_le_pow_right (by omega) hhd.1) (by decide : 2 ^ 10 ≤ 1024)
  have hnn : (0 : Int) ≤ (w.1.length : Int) := by omega
  have hwu := wrapU64 (n := (w.1.length : Int)) (by omega) (by omega)
  unfold S_ref07_lists
  rw [M.loop_list (List.range w.2.1.length) (fun m (each : List (List (List Int))) => ((m : Int), w, each, ())) (fun (m : Nat) each => .next (each ++ [casesV w (m : Int)])) (fun each => .next (w, each, ())) (fun m each => each.length ≤ m) [] ?_ ?_ ?_ ?_]
  · rw [foldS_next, foldl_map_app]
    simp only [M.bind_pure, M.go_next, List.nil_append]
    generalize hE : (List.range w.2.1.length).map (fun (m : Nat) => casesV w (m : Int)) = each
    have hEl : each.length = w.2.1.length := by rw [← hE]; simp
    have hEg : ∀ m : Nat, m < w.2.1.length → List.getD each m [] = casesV w (m : Int) := fun m hm => by rw [← hE]; simp [List.getD_eq_getElem?_getD, hm]
    rw [M.loop_list (List.range (2 ^ w.1.length)) (fun b (out : List (List Int)) => ((b : Int), w, each, out, ())) (fun b out => .next (stepL w out b)) (fun out => .next (out, ())) (fun b out => out.length ≤ b) [] ?_ ?_ ?_ ?_]
    · rw [foldS_next]
      simp only [M.bind_pure, M.go_next]
      rfl
    · rfl
    · simp
    · intro b hb out hout
      have hb : b < 2 ^ w.1.length := by simpa using hb
      have hwb := wrap64 (n := (b : Int) + 1) (by omega) (by omega)
      refine ⟨?_, fun b' hb' => ?_⟩
      · simp only [ofNat_def, hwu, M.req_true hnn, ishl_one (k := w.1.length) (by omega), lt_len hb, if_true, List.getElem_range]
        rw [M.loop_list (List.range w.1.length) (fun i (l : List Int) => ((b : Int), (i : Int), w, each, out, l, ())) (fun (i : Nat) l => .next (if decide (b / 2 ^ i % 2 = 1) = true then l ++ [(i : Int)] else l)) (fun l => .next ((b : Int), w, each, out, l, ())) (fun i l => l.length ≤ i) [] ?_ ?_ ?_ ?_]
        · rw [foldS_next, foldl_filter_map]
          simp only [M.bind_pure, M.go_next, List.nil_append]
          show M.bind (M.req _ (if (decide ((out.length : Int) > 0) && decide (((bitsL w.1.length b).length : Int) > firstLen out)) = true then _ else _)) _ = _
          have r0 : decide ((out.length : Int) > 0) = true → (decide ((out.length : Int) > 0) = true ∧ True) ∧ ((0 : Int) ≤ 0 ∧ (0 : Int) < (out.length : Int)) ∧ True := fun h => ⟨⟨h, trivial⟩, ⟨Int.le_refl _, by simpa using h⟩, trivial⟩
          rw [M.req_true (by exact r0)]
          unfold stepL
          by_cases hc : (decide ((out.length : Int) > 0) && decide (((bitsL w.1.length b).length : Int) > firstLen out)) = true
          · simp only [hc, if_true, M.bind_pure, M.go_next, add_def, hwb]
            rfl
          · rw [if_neg hc, if_neg hc]
            rw [M.loop_listT (List.range w.2.1.length) (fun m (mend : Bool) => ((b : Int), mend, (m : Int), w, each, out, bitsL w.1.length b, ())) (fun (m : Nat) mend => .next (mend && decide (mendV w (bitsL w.1.length b) (m : Int) = 1))) (fun mend => .next ((b : Int), mend, w, each, out, bitsL w.1.length b, ())) true ?_ ?_ ?_]
            · rw [foldS_next, foldl_all]
              simp only [M.bind_pure, M.go_next, Bool.true_and]
              have e : ((List.range w.2.1.length).all fun (m : Nat) => decide (mendV w (bitsL w.1.length b) (m : Int) = 1)) = mendsAllV w (bitsL w.1.length b) := rfl
              rw [e]
              by_cases hm : mendsAllV w (bitsL w.1.length b) = true
              · have hl2 : lenLe (out.length + (0 + 1)) := by unfold lenLe; omega
                have hl3 : lenLe (([] : List (List Int)).length + (0 + 1)) := by unfold lenLe; simp
                simp only [hm, Bool.not_true, Bool.false_eq_true, if_false, if_true]
                rw [M.req_true (by exact r0)]
                show M.bind (M.bind (if (decide ((out.length : Int) > 0) && decide (((bitsL w.1.length b).length : Int) < firstLen out)) = true then _ else _) _) _ = _
                by_cases hd : (decide ((out.length : Int) > 0) && decide (((bitsL w.1.length b).length : Int) < firstLen out)) = true
                · simp only [hd, if_true, M.bind_pure, M.go_next, add_defN, M.req_true hl3, add_def, hwb]
                  rfl
                · simp only [hd, Bool.false_eq_true, if_false, M.bind_pure, M.go_next, add_defN, M.req_true hl2, add_def, hwb]
                  rfl
              · simp only [hm, Bool.not_false, Bool.false_eq_true, if_false, if_true, M.bind_pure, M.go_next, add_def, hwb]
                rfl
            · rfl
            · intro m hm mend
              have hm : m < w.2.1.length := by simpa using hm
              have hwm := wrap64 (n := (m : Int) + 1) (by omega) (by omega)
              have hbl := bitsL_len w.1.length b
              have hp3 := mendsP_of hw (list := bitsL w.1.length b) (by omega) (fun i hi => isSpareV_iff.2 (bitsL_mem hi)) (isMakeV_nat hm)
              have r1 : (0 : Int) ≤ (m : Int) ∧ (m : Int) < (each.length : Int) := by rw [hEl]; omega
              simp only [lt_len hm, if_true, List.getElem_range, FC.sh, M.safe_det, M.val_det, Int.toNat_natCast, hEg m hm, hp3, r1, and_true, true_and, and_self, implies_true, imp_self, M.req_True, add_def, hwm]
              rfl
            · intro mend
              simp
        · rfl
        · simp
        · intro i hi l hl
          have hi : i < w.1.length := by simpa using hi
          have hwi := wrap64 (n := (i : Int) + 1) (by omega) (by omega)
          have hwiu := wrapU64 (n := (i : Int)) (by omega) (by omega)
          have hii : (0 : Int) ≤ (i : Int) := by omega
          have hll : lenLe (l.length + (0 + 1)) := by unfold lenLe; omega
          have hdiv : b / 2 ^ i ≤ b := Nat.div_le_self _ _
          have hand := iand_one (a := b / 2 ^ i) (by omega)
          have hdec : decide (((b / 2 ^ i % 2 : Nat) : Int) = 1) = decide (b / 2 ^ i % 2 = 1) := by rw [decide_eq_decide]; omega
          refine ⟨?_, fun b' hb' => ?_⟩
          · simp only [lt_len hi, if_true, List.getElem_range, hwiu, M.req_true hii, ishr_nat (k := .i64) rfl (a := b) (i := i) (by omega), hand, hdec]
            by_cases hd : decide (b / 2 ^ i % 2 = 1) = true
            · simp only [hd, if_true, add_defN, M.req_true hll, M.bind_pure, M.go_next, add_def, hwi]
              rfl
            · simp only [hd, Bool.false_eq_true, if_false, M.bind_pure, M.go_next, add_def, hwi]
              rfl
          · cases hb'
            split <;> (try simp only [List.length_append, List.length_singleton]) <;> omega
        · intro l hl
          simp
      · cases hb'
        exact Nat.le_trans (stepL_len w out _) (by omega)
    · intro out hout
      simp only [ofNat_def, hwu, M.req_true hnn, ishl_one (k := w.1.length) (by omega), List.length_range, Int.lt_irrefl, decide_false, Bool.false_eq_true, if_false, M.bind_pure]
  · rfl
  · simp
  · intro m hm each heach
    have hm : m < w.2.1.length := by simpa using hm
    have hwm := wrap64 (n := (m : Int) + 1) (by omega) (by omega)
    have hp : goodW w ∧ isMakeV w (m : Int) = true := ⟨hw, isMakeV_nat hm⟩
    have hll : lenLe (each.length + (0 + 1)) := by unfold lenLe; omega
    refine ⟨?_, fun b' hb' => ?_⟩
    · simp only [ofNat_def, lt_len hm, if_true, List.getElem_range, FC.sh, M.bind_det, M.req_true hp, add_defN, M.req_true hll, add_def, hwm]
      rfl
    · cases hb'
      simp only [List.length_append, List.length_singleton]
      omega
  · intro each heach
    simp
theorem sLists (x) : M.le (S_ref07_lists fcMends0.sh fcCases.sh x) (fcLists.sh x) := M.le_det fun h => eLists x h
end Go.Fer
namespace Go.Fer
open M (Step)
set_option linter.unusedVariables false
set_option linter.unusedSimpArgs false
def fewestR (w : Wsh) : Int × Int := if knownV w true ≠ 0 then (0, knownV w true) else if ((listsV w).length : Int) = 0 then (0, 3) else (firstLen (listsV w), 0)
abbrev fcFewest : FC := ⟨tW, .prod tI tI, smallW, fewestR⟩
theorem eFewest (w : Wsh) (h : smallW w) : S_ref07_Fewest fcKnown.sh fcLists.sh w = M.pure (fewestR w) := by
  unfold S_ref07_Fewest fewestR
  simp only [FC.sh, M.bind_det, M.req_true h]
  by_cases hk : knownV w true = 0
  · have hw := good_of_known h hk
    simp only [hk, ne_eq, not_true, decide_false, Bool.false_eq_true, if_false, M.req_true hw, ofNat_def]
    by_cases hz : ((listsV w).length : Int) = 0
    · simp [hz]
    · simp only [hz, decide_false, Bool.false_eq_true, if_false]
      rw [M.req_true (by exact ⟨Int.le_refl _, by omega⟩)]
      rfl
  · simp [hk]
theorem sFewest (x) : M.le (S_ref07_Fewest fcKnown.sh fcLists.sh x) (fcFewest.sh x) := M.le_det fun h => eFewest x h
theorem listsV_mem {w : Wsh} : ∀ l ∈ listsV w, l.length ≤ w.1.length := by
  have : ∀ (bs : List Nat) (out : List (List Int)), (∀ l ∈ out, l.length ≤ w.1.length) → ∀ l ∈ bs.foldl (stepL w) out, l.length ≤ w.1.length := by
    intro bs
    induction bs with
    | nil => intro out h; exact h
    | cons b bs ih =>
      intro out h
      refine ih _ fun l hl => ?_
      unfold stepL at hl
      have hb := bitsL_len w.1.length b
      split at hl
      · exact h l hl
      · split at hl
        · rcases List.mem_append.1 hl with hl | hl
          · split at hl
            · cases hl
            · exact h l hl
          · simp only [List.mem_singleton] at hl
            rw [hl]; exact hb
        · exact h l hl
  exact this _ _ (by simp)
theorem listsV_len {w : Wsh} (hw : goodW w) : (listsV w).length ≤ 1024 := by
  have hhd := wV_head hw.2
  have hpw : 2 ^ w.1.length ≤ 1024 := Nat.le_trans (Nat.pow_le_pow_right (by omega) hhd.1) (by decide : 2 ^ 10 ≤ 1024)
  have : ∀ (bs : List Nat) (out : List (List Int)), (bs.foldl (stepL w) out).length ≤ out.length + bs.length := by
    intro bs
    induction bs with
    | nil => intro out; simp
    | cons b bs ih =>
      intro out
      have := ih (stepL w out b)
      have h2 := stepL_len w out b
      simp only [List.foldl_cons, List.length_cons]
      omega
  have := this (List.range (2 ^ w.1.length)) []
  simp at this
  exact Nat.le_trans this hpw
def neededR (w : Wsh) : List Int × Int := if (fewestR w).2 ≠ 0 then ([], (fewestR w).2) else
  (((List.range w.1.length).filter fun (i : Nat) => decide ((((listsV w).countP fun l => l.contains (i : Int)) : Int) = ((listsV w).length : Int))).map fun (i : Nat) => (i : Int), 0)
abbrev fcNeeded : FC := ⟨tW, .prod tInts tI, smallW, neededR⟩
theorem eNeeded (w : Wsh) (h : smallW w) : S_ref07_Needed fcIn.sh fcFewest.sh fcLists.sh w = M.pure (neededR w) := by
  unfold S_ref07_Needed neededR
  simp only [FC.sh, M.bind_det, M.req_true h]
  by_cases hk : (fewestR w).2 = 0
  · have hkn : knownV w true = 0 := by
      unfold fewestR at hk
      split at hk
      · rename_i hne; exact absurd hk hne
      · rename_i hne; exact Decidable.not_not.1 hne
    have hw := good_of_known h hkn
    have hhd := wV_head hw.2
    have hll := listsV_len hw
    simp only [hk, ne_eq, not_true, decide_false, Bool.false_eq_true, if_false, M.req_true hw]
    rw [M.loop_list (List.range w.1.length) (fun i (out : List Int) => (listsV w, (i : Int), w, out, ())) (fun (i : Nat) out => .next (if decide ((((listsV w).countP fun l => l.contains (i : Int)) : Int) = ((listsV w).length : Int)) = true then out ++ [(i : Int)] else out)) (fun out => .next (out, ())) (fun i out => out.length ≤ i) [] ?_ ?_ ?_ ?_]
    · rw [foldS_next, foldl_filter_map]
      simp only [M.bind_pure, M.go_next, List.nil_append]
    · rfl
    · simp
    · intro i hi out hout
      have hi : i < w.1.length := by simpa using hi
      have hwi := wrap64 (n := (i : Int) + 1) (by omega) (by omega)
      have hl2 : lenLe (out.length + (0 + 1)) := by unfold lenLe; omega
      refine ⟨?_, fun b' hb' => ?_⟩
      · simp only [ofNat_def, lt_len hi, if_true, List.getElem_range]
        rw [M.loop_list (listsV w) (fun k (n : Int) => (listsV w, (i : Int), n, (k : Int), w, out, ())) (fun l n => .next (if l.contains (i : Int) = true then n + 1 else n)) (fun n => .next (listsV w, (i : Int), n, w, out, ())) (fun k n => 0 ≤ n ∧ n ≤ (k : Int)) 0 ?_ ?_ ?_ ?_]
        · rw [foldS_next, foldl_count]
          simp only [M.bind_pure, M.go_next, Int.zero_add]
          by_cases hc : (((listsV w).countP fun l => l.contains (i : Int)) : Int) = ((listsV w).length : Int)
          · simp only [hc, decide_true, if_true, add_defN, M.req_true hl2, M.bind_pure, M.go_next, add_def, hwi]
            rfl
          · simp only [hc, decide_false, Bool.false_eq_true, if_false, M.bind_pure, M.go_next, add_def, hwi]
            rfl
        · rfl
        · simp
        · intro k hk n hn
          have hwk := wrap64 (n := (k : Int) + 1) (by omega) (by omega)
          have hwn := wrap64 (n := n + 1) (by omega) (by omega)
          have hlm : (listsV w)[k].length < 2 ^ 63 := by have := listsV_mem _ (List.getElem_mem hk); omega
          refine ⟨?_, fun b' hb' => ?_⟩
          · simp only [lt_len hk, if_true, getD_nat hk, in_len hk, M.req_True, M.req_true hlm, add_def, hwn]
            by_cases hc : (listsV w)[k].contains (i : Int) = true
            · simp only [hc, if_true, M.bind_pure, M.go_next, hwk]; rfl
            · simp only [hc, Bool.false_eq_true, if_false, M.bind_pure, M.go_next, hwk]; rfl
          · cases hb'
            split <;> omega
        · intro n hn
          simp
      · cases hb'
        split <;> (try simp only [List.length_append, List.length_singleton]) <;> omega
    · intro out hout
      simp
  · simp [hk]
theorem sNeeded (x) : M.le (S_ref07_Needed fcIn.sh fcFewest.sh fcLists.sh x) (fcNeeded.sh x) := M.le_det fun h => eNeeded x h
end Go.Fer
namespace Go.Fer
open M (Step)
set_option linter.unusedVariables false
set_option linter.unusedSimpArgs false
theorem M.ret_loop_n {σ ρ : Type} {body : σ → M (Step σ ρ)} {p : ρ → Prop} {s0 : σ} (n : Nat) (I : Nat → σ → Prop) (h0 : I 0 s0)
    (hs : ∀ i, i < n → ∀ s, I i s → M.Ret (body s) fun st => match st with | .next s' => I (i + 1) s' | .done r => p r)
    (hf : ∀ s, I n s → M.Ret (body s) fun st => match st with | .next _ => False | .done r => p r) : M.Ret (M.loop body s0) p := by
  have key : ∀ k i s, n - i = k → i ≤ n → I i s → M.Ret (M.loop body s) p := by
    intro k
    induction k with
    | zero =>
      intro i s hk hi h
      have : i = n := by omega
      subst this
      rw [M.loop_unfold, M.ret_bind]
      refine (hf s h).mono fun y hy => ?_
      cases y with
      | next s' => exact hy.elim
      | done r => exact M.ret_pure.2 hy
    | succ k ih =>
      intro i s hk hi h
      rw [M.loop_unfold, M.ret_bind]
      refine (hs i (by omega) s h).mono fun y hy => ?_
      cases y with
      | next s' => exact ih (i + 1) s' (by omega) (by omega) hy
      | done r => exact M.ret_pure.2 hy
  exact key n 0 s0 rfl (Nat.zero_le _) h0
theorem M.ret_of_eq {α : Type} {m : M α} {v : α} {p : α → Prop} (h : m = M.pure v) (hp : p v) : M.Ret m p := by rw [h]; exact M.ret_pure.2 hp
def keysI (m : List (Int × Int)) : List Int := m.map (·.1)
theorem msetI_cons (p : Int × Int) (m : List (Int × Int)) (k v : Int) : msetI (p :: m) k v = if decide (k = p.1) = true then (p.1, v) :: m else p :: msetI m k v := rfl
theorem keys_mset (k v : Int) : ∀ (m : List (Int × Int)), ((keysI m).Nodup → (keysI (msetI m k v)).Nodup) ∧ ∀ x, x ∈ keysI (msetI m k v) ↔ x ∈ keysI m ∨ x = k
  | [] => by
    show ((keysI []).Nodup → (keysI [(k, v)]).Nodup) ∧ ∀ x, x ∈ keysI [(k, v)] ↔ x ∈ keysI [] ∨ x = k
    simp [keysI]
  | p :: m => by
    obtain ⟨h1, h2⟩ := keys_mset k v m
    rw [msetI_cons]
    by_cases h : k = p.1
    · subst h
      simp only [decide_true, if_true]
      refine ⟨fun h => h, fun x => ?_⟩
      show x ∈ p.1 :: keysI m ↔ x ∈ p.1 :: keysI m ∨ x = p.1
      simp only [List.mem_cons]
      exact ⟨.inl, fun h => h.elim id .inl⟩
    · simp only [h, decide_false, Bool.false_eq_true, if_false]
      refine ⟨fun hn => ?_, fun x => ?_⟩
      · show (p.1 :: keysI (msetI m k v)).Nodup
        have hn' : (p.1 :: keysI m).Nodup := hn
        rw [List.nodup_cons] at hn' ⊢
        refine ⟨fun hm => ?_, h1 hn'.2⟩
        rcases (h2 p.1).1 hm with hm | hm
        · exact hn'.1 hm
        · exact h hm.symm
      · show x ∈ p.1 :: keysI (msetI m k v) ↔ x ∈ p.1 :: keysI m ∨ x = k
        simp only [List.mem_cons, h2, or_assoc]
theorem mem_mset {k v : Int} : ∀ {m : List (Int × Int)} {q : Int × Int}, q ∈ msetI m k v → q ∈ m ∨ q.2 = v
  | [], q, h => by
    have h : q ∈ [(k, v)] := h
    simp at h
    rw [h]; exact .inr rfl
  | p :: m, q, h => by
    rw [msetI_cons] at h
    split at h
    · rcases List.mem_cons.1 h with rfl | h
      · exact .inr rfl
      · exact .inl (List.mem_cons_of_mem _ h)
    · rcases List.mem_cons.1 h with rfl | h
      · exact .inl List.mem_cons_self
      · exact (mem_mset h).imp (List.mem_cons_of_mem _) id
theorem mlk_bound {m : List (Int × Int)} {k T : Int} (h : ∀ p ∈ m, 1 ≤ p.2 ∧ p.2 ≤ T) (hT : 0 ≤ T) : 0 ≤ (mlkI m k).getD 0 ∧ (mlkI m k).getD 0 ≤ T := by
  unfold mlkI
  cases hf : m.find? fun p => decide (k = p.1) with
  | none => simpa using hT
  | some p =>
    have := h p (List.mem_of_find?_eq_some hf)
    simp
    omega
theorem mlk_pos {m : List (Int × Int)} (h : ∀ p ∈ m, 1 ≤ p.2) (k : Int) : decide ((mlkI m k).getD 0 > 0) = (keysI m).contains k := by
  unfold mlkI keysI
  rw [Bool.eq_iff_iff]
  simp only [decide_eq_true_eq, List.contains_iff_mem, List.mem_map]
  cases hf : m.find? fun p => decide (k = p.1) with
  | none =>
    simp only [Option.map_none, Option.getD_none, Int.lt_irrefl, gt_iff_lt, false_iff]
    rintro ⟨p, hp, e⟩
    have := List.find?_eq_none.1 hf p hp
    simp [e] at this
  | some p =>
    have hm := List.mem_of_find?_eq_some hf
    have hk : k = p.1 := by simpa using List.find?_some hf
    have := h p hm
    simp only [Option.map_some, Option.getD_some]
    exact ⟨fun _ => ⟨p, hm, hk.symm⟩, fun _ => by omega⟩
theorem mem_stepIn {c x : Int} : ∀ {can next : List Int}, x ∈ stepIn c can next ↔ x ∈ next ∨ ∃ b ∈ can, x = orI b c
  | [], next => by simp [stepIn]
  | b :: can, next => by
    have : stepIn c (b :: can) next = stepIn c can (addN next (orI b c)) := rfl
    rw [this, mem_stepIn, mem_addN]
    simp only [List.mem_cons, exists_eq_or_imp, or_assoc]
theorem mem_stepC {can l : List Int} {x : Int} : x ∈ stepC can l ↔ ∃ c ∈ l, ∃ b ∈ can, x = orI b c := by
  have : ∀ (l next : List Int), x ∈ l.foldl (fun next c => stepIn c can next) next ↔ x ∈ next ∨ ∃ c ∈ l, ∃ b ∈ can, x = orI b c := by
    intro l
    induction l with
    | nil => intro next; simp
    | cons c l ih =>
      intro next
      rw [List.foldl_cons, ih, mem_stepIn]
      simp only [List.mem_cons, exists_eq_or_imp, or_assoc]
  have := this l []
  simpa [stepC] using this
theorem mem_caseV {w : Wsh} {i m x : Int} : x ∈ caseV w i m ↔ ∃ n ∈ lens w i, x = covV w i n m := by
  have : ∀ (l own : List Int), x ∈ l.foldl (fun own n => addN own (covV w i n m)) own ↔ x ∈ own ∨ ∃ n ∈ l, x = covV w i n m := by
    intro l
    induction l with
    | nil => intro own; simp
    | cons n l ih =>
      intro own
      rw [List.foldl_cons, ih, mem_addN]
      simp only [List.mem_cons, exists_eq_or_imp, or_assoc]
  have := this (lens w i) []
  simpa [caseV] using this
def OkM (m : List (Int × Int)) (T : Int) (q : Int → Prop) : Prop := (keysI m).Nodup ∧ (∀ x, x ∈ keysI m ↔ q x) ∧ ∀ p ∈ m, 1 ≤ p.2 ∧ p.2 ≤ T
theorem OkM.add {m : List (Int × Int)} {T : Int} {q q' : Int → Prop} (h : OkM m T q) {k : Int} (hT : 0 ≤ T) (hq : ∀ x, q' x ↔ q x ∨ x = k) : OkM (msetI m k ((mlkI m k).getD 0 + 1)) (T + 1) q' := by
  obtain ⟨h1, h2, h3⟩ := h
  obtain ⟨k1, k2⟩ := keys_mset k ((mlkI m k).getD 0 + 1) m
  refine ⟨k1 h1, fun x => by rw [k2, h2, hq], fun p hp => ?_⟩
  have hb := mlk_bound (k := k) h3 hT
  rcases mem_mset hp with hp | hp
  · have := h3 p hp; omega
  · omega
theorem OkM.weak {m : List (Int × Int)} {T T' : Int} {q q' : Int → Prop} (h : OkM m T q) (hT : T ≤ T') (hq : ∀ x, q' x ↔ q x) : OkM m T' q' :=
  ⟨h.1, fun x => by rw [h.2.1, hq], fun p hp => by have := h.2.2 p hp; omega⟩
abbrev mendedP (x : Option Shp × List Int × Int) : Prop := ∃ w, isShop x.1 w ∧ x.2.1.length < 2 ^ 63 ∧ (∀ i ∈ x.2.1, isSpareV w i = true) ∧ isMakeV w x.2.2 = true
def shMended (x : Option Shp × List Int × Int) : M (List (Int × Int)) :=
  ⟨mendedP x, fun m => (keysI m).Nodup ∧ (∀ p ∈ m, 1 ≤ p.2) ∧ ∀ w, x.1 = some (w, lensAll w) → ∀ s, s ∈ keysI m ↔ s ∈ canV (casesV w x.2.2) x.2.1⟩
theorem casesV_get {w : Wsh} {i m : Int} (h : isSpareV w i = true) : List.getD (casesV w m) i.toNat [] = caseV w i m := by
  rw [isSpareV_iff] at h
  have h1 : i.toNat < w.1.length := by omega
  have e : ((i.toNat : Nat) : Int) = i := by omega
  simp [casesV, List.getD_eq_getElem?_getD, h1, e]
theorem canV_take {each : List (List Int)} {list : List Int} {j : Nat} (h : j < list.length) : canV each (list.take (j + 1)) = stepC (canV each (list.take j)) (each.getD (list[j]).toNat []) := by
  have e : list.take (j + 1) = list.take j ++ [list[j]] := by rw [List.take_add_one, List.getElem?_eq_getElem h]; rfl
  unfold canV
  rw [e, List.foldl_append]
  rfl
theorem canV_fine {w : Wsh} (hw : goodW w) {m : Int} (hm : isMakeV w m = true) : ∀ (list can : List Int), (∀ i ∈ list, isSpareV w i = true) → Fine can → Fine (list.foldl (fun can i => stepC can ((casesV w m).getD i.toNat [])) can)
  | [], _, _, h => h
  | i :: list, can, hl, h => by
    refine canV_fine hw hm list _ (fun j hj => hl j (List.mem_cons_of_mem _ hj)) (stepC_fine h.2 ?_)
    rw [casesV_get (hl i (by simp))]
    exact (caseV_fine hw hm i).2
theorem fine0 : Fine [0] := ⟨by simp, fun x hx => by simp at hx; omega⟩
end Go.Fer
namespace Go.Fer
open M (Step)
set_option linter.unusedVariables false
set_option linter.unusedSimpArgs false
theorem map_len {sets : List (Int × Int)} {can : List Int} {T : Int} (hs : OkM sets T fun x => x ∈ can) (hf : Fine can) : sets.length ≤ 16 := by
  have : (keysI sets).length ≤ 16 := nodup_bound 16 _ hs.1 fun x hx => by have := hf.2 x ((hs.2.1 x).1 hx); omega
  simpa [keysI] using this
theorem take_mem {α : Type} {l : List α} {k : Nat} (h : k < l.length) {p : α → Prop} : (∃ n ∈ l.take (k + 1), p n) ↔ (∃ n ∈ l.take k, p n) ∨ p l[k] := by
  have e : l.take (k + 1) = l.take k ++ [l[k]] := by rw [List.take_add_one, List.getElem?_eq_getElem h]; rfl
  rw [e]
  simp only [List.mem_append, List.mem_singleton]
  constructor
  · rintro ⟨n, hn | rfl, hp⟩
    · exact .inl ⟨n, hn, hp⟩
    · exact .inr hp
  · rintro (⟨n, hn, hp⟩ | hp)
    · exact ⟨n, .inl hn, hp⟩
    · exact ⟨_, .inr rfl, hp⟩
theorem eMended (w : Wsh) (list : List Int) (m : Int) (hw : goodW w) (hl : list.length < 2 ^ 63) (hs : ∀ i ∈ list, isSpareV w i = true) (hm : isMakeV w m = true) :
    M.Ret (S_parts_shop_mended fcFitsAt.sh (some (w, lensAll w), list, m)) fun r => ∃ T, OkM r T fun x => x ∈ canV (casesV w m) list := by
  have r1 := isMakeV_iff.1 hm
  have hsl := slots_le hw hm
  have hg : List.getD w.2.1 m.toNat [] = slotsOfV w m := rfl
  unfold S_parts_shop_mended
  rw [M.ret_bind]
  refine M.ret_loop_n (p := fun r => M.Ret (Step.go _ r) _) list.length (fun j s => ∃ sets : List (Int × Int), s = (some (w, lensAll w), m, sets, list, (list.length : Int), (j : Int), ()) ∧ ∃ T, OkM sets T fun x => x ∈ canV (casesV w m) (list.take j)) ?_ ?_ ?_
  · refine ⟨[(0, 1)], rfl, 1, by simp [keysI], fun x => ?_, fun p hp => ?_⟩
    · simp [keysI, canV]
    · simp at hp; rw [hp]; exact ⟨Int.le_refl _, Int.le_refl _⟩
  · rintro j hj s ⟨sets, rfl, T, hok⟩
    have hi := hs list[j] (List.getElem_mem hj)
    have hir := isSpareV_iff.1 hi
    have hll := lens_len hw hi
    have hfc : Fine (canV (casesV w m) (list.take j)) := canV_fine hw hm _ _ (fun i hi => hs i (List.mem_of_mem_take hi)) fine0
    have hsz := map_len hok hfc
    have hwj := wrap64 (n := (j : Int) + 1) (by omega) (by omega)
    have r2 : 0 ≤ list[j] ∧ list[j] < ((lensAll w).length : Int) := by rw [lensAll_len]; exact hir
    simp only [ofNat_def, lt_len hj, if_true, getD_nat hj, in_len hj, M.req_True, Option.isSome_some, Option.getD_some, M.req_true r2, lensAll_get hi, M.ret_bind]
    generalize hI : list[j] = i at hi hll
    refine M.ret_loop_n (p := fun r => M.Ret (Step.go _ r) _) (lens w i).length (fun k s => ∃ next : List (Int × Int), s = (some (w, lensAll w), m, sets, i, list, (list.length : Int), (j : Int), lens w i, ((lens w i).length : Int), (k : Int), next, ()) ∧
      OkM next (16 * (k : Int)) fun x => ∃ n ∈ (lens w i).take k, ∃ b ∈ canV (casesV w m) (list.take j), x = orI b (covV w i n m)) ?_ ?_ ?_
    · exact ⟨[], rfl, by simp [keysI], fun x => by simp [keysI], fun p hp => by cases hp⟩
    · rintro k hk s ⟨next, rfl, hnx⟩
      have hwk := wrap64 (n := (k : Int) + 1) (by omega) (by omega)
      simp only [lt_len hk, if_true, getD_nat hk, in_len hk, M.req_True, Option.isSome_some, Option.getD_some, M.req_true r1, hg]
      generalize hN : (lens w i)[k] = n
      rw [M.loop_list (List.range (slotsOfV w m).length) (fun q (b : Nat) => (some (w, lensAll w), m, sets, i, n, (b : Int), list, (list.length : Int), (j : Int), lens w i, ((lens w i).length : Int), (k : Int), ((slotsOfV w m).length : Int), (q : Int), next, ())) (fun (q : Nat) b => .next (if fitsAt w i n m (q : Int) = true then b ||| 2 ^ q else b))
        (fun b => .next (some (w, lensAll w), m, sets, i, (b : Int), list, (list.length : Int), (j : Int), lens w i, ((lens w i).length : Int), (k : Int), next, ())) (fun q b => b < 2 ^ 4) 0 ?_ ?_ ?_ ?_]
      · rw [foldS_next]
        simp only [M.bind_pure, M.go_next, M.ret_bind]
        show M.Ret (M.loop _ (some (w, lensAll w), m, sets, i, covV w i n m, list, (list.length : Int), (j : Int), lens w i, ((lens w i).length : Int), (k : Int), next, (none, sets), ())) _
        have hcov := covV_16 hw hm i n
        refine M.ret_loop_n (p := fun r => M.Ret (Step.go _ r) _) sets.length (fun q s => ∃ (nx : List (Int × Int)) (cur : Option (Int × Int)) (rest D : List (Int × Int)), s = (some (w, lensAll w), m, sets, i, covV w i n m, list, (list.length : Int), (j : Int), lens w i, ((lens w i).length : Int), (k : Int), nx, (cur, rest), ()) ∧
          rest.length = sets.length - q ∧ (∀ p, p ∈ sets ↔ p ∈ D ∨ p ∈ rest) ∧ OkM nx (16 * (k : Int) + (q : Int)) fun x => (∃ n ∈ (lens w i).take k, ∃ b ∈ canV (casesV w m) (list.take j), x = orI b (covV w i n m)) ∨ ∃ p ∈ D, x = orI p.1 (covV w i n m)) ?_ ?_ ?_
        · exact ⟨next, none, sets, [], rfl, by simp, fun p => by simp, hnx.weak (by omega) fun x => by simp⟩
        · rintro q hq s ⟨nx, cur, rest, D, rfl, hrl, hmem, hok2⟩
          simp only [M.ret_bind]
          refine ⟨trivial, fun y hy => ?_⟩
          cases y with
          | none =>
            have : rest = [] := hy
            rw [this] at hrl
            simp at hrl
            omega
          | some r =>
            have hr : r < rest.length := hy
            have hcur : nxtC cur rest (some r) = some rest[r] := by simp [nxtC, hr]
            have hmr : rest[r] ∈ sets := (hmem _).2 (.inr (List.getElem_mem hr))
            have hk16 : 0 ≤ rest[r].1 ∧ rest[r].1 < 16 := hfc.2 _ ((hok.2.1 _).1 (List.mem_map.2 ⟨_, hmr, rfl⟩))
            have hlk := mlk_bound (k := orI rest[r].1 (covV w i n m)) hok2.2.2 (by omega)
            have hwv := wrap64 (n := (mlkI nx (orI rest[r].1 (covV w i n m))).getD 0 + 1) (by omega) (by omega)
            simp only [Option.isSome_some, if_true, hcur, M.req_True, M.bind_pure, M.ret_pure, Option.map_some, Option.getD_some, ior_16 hk16 hcov, add_def]
            refine ⟨_, some rest[r], rest.eraseIdx r, rest[r] :: D, rfl, by rw [List.length_eraseIdx, if_pos hr]; omega, fun p => ?_, ?_⟩
            · rw [hmem, List.mem_cons]
              have hp : p ∈ rest ↔ p = rest[r] ∨ p ∈ rest.eraseIdx r := by
                have e : rest = rest.take r ++ rest[r] :: rest.drop (r + 1) := by rw [List.getElem_cons_drop, List.take_append_drop]
                rw [List.eraseIdx_eq_take_drop_succ]
                constructor
                · intro h
                  rw [e] at h
                  simp only [List.mem_append, List.mem_cons] at h ⊢
                  rcases h with h | h | h
                  · exact .inr (.inl h)
                  · exact .inl h
                  · exact .inr (.inr h)
                · rintro (rfl | h)
                  · exact List.getElem_mem hr
                  · rcases List.mem_append.1 h with h | h
                    · exact List.mem_of_mem_take h
                    · exact List.mem_of_mem_drop h
              rw [hp, or_assoc, or_left_comm]
            · show OkM (msetI nx (orI rest[r].1 (covV w i n m)) (IntKind.i64.wrap ((mlkI nx (orI rest[r].1 (covV w i n m))).getD 0 + 1))) _ _
              rw [hwv]
              refine (hok2.add (by omega) (q' := fun x => (∃ n ∈ (lens w i).take k, ∃ b ∈ canV (casesV w m) (list.take j), x = orI b (covV w i n m)) ∨ ∃ p ∈ rest[r] :: D, x = orI p.1 (covV w i n m)) fun x => ?_).weak (by omega) fun x => Iff.rfl
              simp only [List.mem_cons, exists_eq_or_imp]
              rw [or_comm (a := x = _), or_assoc]
        · rintro s ⟨nx, cur, rest, D, rfl, hrl, hmem, hok2⟩
          have hr0 : rest = [] := List.eq_nil_of_length_eq_zero (by omega)
          subst hr0
          simp only [M.ret_bind]
          refine ⟨trivial, fun y hy => ?_⟩
          cases y with
          | some r => exact absurd (show r < 0 from hy) (by omega)
          | none =>
            simp only [Option.isSome_none, Bool.false_eq_true, if_false, M.bind_pure, M.ret_pure, M.go_next, add_def, hwk]
            refine ⟨nx, rfl, hok2.weak (by omega) fun x => ?_⟩
            rw [take_mem hk, hN]
            refine or_congr Iff.rfl ⟨?_, ?_⟩
            · rintro ⟨b, hb, rfl⟩
              obtain ⟨p, hp, rfl⟩ := List.mem_map.1 ((hok.2.1 b).2 hb)
              exact ⟨p, by simpa using (hmem p).1 hp, rfl⟩
            · rintro ⟨p, hp, rfl⟩
              exact ⟨p.1, (hok.2.1 _).1 (List.mem_map.2 ⟨p, (hmem p).2 (.inl hp), rfl⟩), rfl⟩
      · rfl
      · decide
      · intro q hq b hb
        have hq : q < (slotsOfV w m).length := by simpa using hq
        have hb : b < 16 := by simpa using hb
        have hwq := wrap64 (n := (q : Int) + 1) (by omega) (by omega)
        have hp : goodW w ∧ isSpareV w i = true ∧ isSlotOfV w m (q : Int) = true := ⟨hw, hi, isSlotOfV_nat hm hq⟩
        have h2 : 2 ^ q < 2 ^ 4 := Nat.pow_lt_pow_right (by omega) (by omega)
        have h2' : 2 ^ q < 16 := by simpa using h2
        have hqn : (0 : Int) ≤ (q : Int) := by omega
        have ho : ior .i64 (b : Int) ((2 ^ q : Nat) : Int) = orI (b : Int) ((2 ^ q : Nat) : Int) := by
          generalize 2 ^ q = P at h2'
          exact ior_eq (by omega) (by omega) (by omega) (by omega)
        have ho2 : orI (b : Int) ((2 ^ q : Nat) : Int) = ((b ||| 2 ^ q : Nat) : Int) := by unfold orI; simp only [Int.toNat_natCast]
        refine ⟨?_, fun b' hb' => ?_⟩
        · simp only [lt_len hq, if_true, FC.sh, M.bind_det, Option.isSome_some, Option.getD_some, M.req_True, M.req_true hp, List.getElem_range]
          by_cases hf : fitsAt w i n m (q : Int) = true
          · simp only [hf, if_true, M.req_true hqn, ishl_one (k := q) (by omega), ho, ho2, M.bind_pure, M.go_next, add_def, hwq]
            rfl
          · simp only [hf, Bool.false_eq_true, if_false, M.bind_pure, M.go_next, add_def, hwq]
            rfl
        · cases hb'
          split
          · exact Nat.or_lt_two_pow (n := 4) (by simpa using hb) (by simpa using h2')
          · simpa using hb
      · intro b hb
        simp only [List.length_range, Int.lt_irrefl, decide_false, Bool.false_eq_true, if_false, M.bind_pure]
    · rintro s ⟨next, rfl, hnx⟩
      simp only [Int.lt_irrefl, decide_false, Bool.false_eq_true, if_false, M.bind_pure, M.ret_pure, M.go_next, add_def, hwj]
      refine ⟨next, rfl, _, hnx.weak (Int.le_refl _) fun x => ?_⟩
      rw [canV_take hj, mem_stepC, hI, casesV_get hi]
      constructor
      · rintro ⟨c, hc, b, hb, rfl⟩
        obtain ⟨n, hn, rfl⟩ := mem_caseV.1 hc
        exact ⟨n, by rw [List.take_length]; exact hn, b, hb, rfl⟩
      · rintro ⟨n, hn, b, hb, rfl⟩
        rw [List.take_length] at hn
        exact ⟨_, mem_caseV.2 ⟨n, hn, rfl⟩, b, hb, rfl⟩
  · rintro s ⟨sets, rfl, T, hok⟩
    rw [List.take_length] at hok
    simp only [ofNat_def, Int.lt_irrefl, decide_false, Bool.false_eq_true, if_false, M.bind_pure, M.ret_pure, M.go_next]
    exact ⟨T, hok⟩
theorem sMended (x) : M.le (S_parts_shop_mended fcFitsAt.sh x) (shMended x) := fun h => by
  obtain ⟨o, list, m⟩ := x
  obtain ⟨w, ⟨ho, hw⟩, hl, hs, hm⟩ := h
  change o = _ at ho
  subst ho
  obtain ⟨h1, h2⟩ := eMended w list m hw hl hs hm
  refine ⟨h1, fun r hr => ?_⟩
  obtain ⟨T, k1, k2, k3⟩ := h2 r hr
  refine ⟨k1, fun p hp => (k3 p hp).1, fun w' hw' s => ?_⟩
  cases hw'
  exact k2 s
end Go.Fer
